/- A cache in memory; its functions walked. -/
import Derived.Test.YthmllhihldbfoaaCp
set_option linter.unusedVariables false
namespace Go.Proofs.Ythmllhihldbfoaa
open Go.RowKit Go.Cof

abbrev ptr (p : Nat) : Value := .pointer (some ⟨p, 0, none⟩)
abbrev uV (x : Int) : Value := .int .u64 x
abbrev encW : Enc Int := Go.Cof.encI .u64
set_option maxHeartbeats 4000000 in
theorem indexW_spec (A : Option Addr) (m c : Nat) (xs : List Int) (v : Int) (hm : m ≤ 9223372036854775807) : FnC Try.prog 70 [.slice A m c, uV v] (fun h => rdS encW h A m xs) (iV (idxI (qI v) xs)) := by
  refine Ctr.intro Try.func70 rfl rfl (by decide +kernel) fun F hpre => ?_
  have r1 : rdS encW F.heap A m xs := hpre
  have hlen := r1.1
  have hfl := firstQ_le (qI v) xs
  repeat' (first | (refine XL_id ?_; first | refine XL_nil ?_ | (refine XL_op tt_ok rfl rfl ?_)) | (refine X_id ?_; first | refine X_seq ?_ | (refine X_regionN (by repeat' (exact .nil)) ?_) | refine X_block ?_) | (refine Y_id ?_; refine Y_then ?_))
  refine X_loopD [0, 1, 7] (fun (i : Nat) => [(8, .int .i64 i)]) (fun _ => []) (fun i => i ≤ m ∧ ∀ j : Nat, j < i → qI v (Cof.get xs j) = false) (fun i => m - i) 0 rfl ⟨Nat.zero_le _, fun j hj => by omega⟩ (by (repeat' (first | exact trivial | refine And.intro rfl ?_)); done) (fun _ h => h) ?_
  intro i hi
  obtain ⟨hi, hx⟩ := hi
  by_cases hlt : i < m
  · by_cases hqi : v = Cof.get xs i
    · have e := firstQ_eq (q := qI v) (i := i) (by omega) hx (fun _ => decide_eq_true hqi)
      repeat' (first | (refine XL_id ?_; first | refine XL_nil ?_ | (refine XG_load ?_; refine XL_el tt_ok rfl (by assumption) rfl (by omega) (by omega) rfl rfl rfl rfl ?_) | (refine XG_idx ?_; refine XL_idx tt_ok rfl rfl rfl rfl rfl (by assumption) (by omega) (by omega) rfl ?_) | (refine XL_op tt_ok rfl rfl ?_; try (refine XL_dec_t (by omega) ?_))) | (refine X_id ?_; first | refine X_seq ?_ | (refine X_regionN (by repeat' (exact .nil)) ?_) | refine X_skip ?_ | refine X_ret ?_ | refine X_block ?_ | refine X_cond_t rfl ?_) | (refine Y_id ?_; first | refine Y_then ?_ | refine Y_then_ret ?_ | refine Y_block_ret ?_))
      all_goals first
        | exact Y_fn1 rfl rfl (by unfold idxI; rw [e, if_pos (by omega)])
        | (exfalso; omega)
        | skip
      
    · repeat' (first | (refine XL_id ?_; first | refine XL_nil ?_ | (refine XG_load ?_; refine XL_el tt_ok rfl (by assumption) rfl (by omega) (by omega) rfl rfl rfl rfl ?_) | (refine XG_idx ?_; refine XL_idx tt_ok rfl rfl rfl rfl rfl (by assumption) (by omega) (by omega) rfl ?_) | (refine XL_op tt_ok rfl rfl ?_; try (first | refine XL_int (wrap_i64 (by omega) (by omega)) ?_ | refine XL_dec_t (by omega) ?_ | refine XL_dec_f (by omega) ?_))) | (refine X_id ?_; first | refine X_seq ?_ | (refine X_regionN (by repeat' (exact .nil)) ?_) | refine X_skip ?_ | refine X_block ?_ | refine X_cond_t rfl ?_ | refine X_cond_f rfl ?_) | (refine Y_id ?_; first | refine Y_then ?_ | refine Y_block_normal ?_))
      all_goals first
        | exact Y_again (i + 1) fun _ _ hf hs => ⟨⟨by omega, fun j hj => by
            by_cases hj2 : j < i
            · exact hx j hj2
            · obtain rfl : j = i := by omega
              exact decide_eq_false hqi⟩, by omega, hf.sub (by (repeat' (first | exact trivial | refine And.intro rfl ?_)); done), hs⟩
        | (exfalso; omega)
        | skip
      
  · obtain rfl : i = m := by omega
    have e := firstQ_eq (q := qI v) (l := xs) (i := i) (by omega) hx (fun _ => by omega)
    repeat' (first | (refine XL_id ?_; first | refine XL_nil ?_ | (refine XL_op tt_ok rfl rfl ?_; try (refine XL_dec_f (by omega) ?_))) | (refine X_id ?_; first | refine X_seq ?_ | (refine X_regionN (by repeat' (exact .nil)) ?_) | refine X_ret ?_ | refine X_exit ?_ | refine X_cond_f rfl ?_) | (refine Y_id ?_; first | refine Y_then ?_ | refine Y_then_exit ?_ | refine Y_block_hit ?_))
    exact Y_fn1 rfl rfl (by unfold idxI; rw [e, if_neg (by omega)])
/-! a cache -/
structure CaOk (n w : Nat) (s : List (List Int)) : Prop where
  len : s.length = n
  pos : 1 ≤ n
  cap : n ≤ 4096
  w1 : 1 ≤ w
  w2 : w ≤ 16
  nd : ∀ j : Nat, j < n → (Cof.get s (j : Int)).Nodup
  le : ∀ j : Nat, j < n → (Cof.get s (j : Int)).length ≤ w
structure Cq where
  A : Option Addr
  c : Nat
  qs : List (In Int)
structure Cq.Ok (y : Cq) (n w : Nat) (s : List (List Int)) : Prop where
  eq : y.qs.map In.xs = s
  ml : ∀ j : Nat, j < n → (Cof.get y.qs (j : Int)).m = (Cof.get y.qs (j : Int)).xs.length
  ok : CaOk n w s
abbrev caB (p n w : Nat) (y : Cq) : HProp := blk p [.slice y.A n y.c, iV w] 103
abbrev caM (p n w : Nat) (y : Cq) : List HProp := [caB p n w y, own (encIn Int) y.A n y.c y.qs, allI encW y.qs]
def isCa (p n w : Nat) (s : List (List Int)) : HProp := fun h => ∃ y : Cq, y.Ok n w s ∧ stars (caM p n w y) h
theorem getI_set {s : List (List Int)} {k j : Int} {v : List Int} (h0 : 0 ≤ k) (h1 : k < s.length) (hj : 0 ≤ j) : Cof.get (s.set k.toNat v) j = if k = j then v else Cof.get s j := by
  obtain ⟨a, rfl⟩ := Int.eq_ofNat_of_zero_le h0
  obtain ⟨b, rfl⟩ := Int.eq_ofNat_of_zero_le hj
  rw [show (a : Int).toNat = a from rfl, get_set (by omega)]
  by_cases e : a = b
  · subst e; rw [if_pos rfl, if_pos rfl]
  · rw [if_neg e, if_neg (fun h => e (by omega))]
theorem CaOk.set {n w : Nat} {s : List (List Int)} (h : CaOk n w s) {k : Int} (h0 : 0 ≤ k) (h1 : k < n) {v : List Int} (hv : v.Nodup) (hv2 : v.length ≤ w) : CaOk n w (s.set k.toNat v) := by
  refine ⟨by rw [List.length_set]; exact h.len, h.pos, h.cap, h.w1, h.w2, fun j hj => ?_, fun j hj => ?_⟩
  · rw [getI_set h0 (by rw [h.len]; exact h1) (by omega)]
    split
    · exact hv
    · exact h.nd j hj
  · rw [getI_set h0 (by rw [h.len]; exact h1) (by omega)]
    split
    · exact hv2
    · exact h.le j hj
theorem get_rep {n : Nat} {j : Int} : Cof.get (List.replicate n ([] : List Int)) j = [] := by
  unfold Cof.get; rw [List.getD_eq_getElem?_getD, List.getElem?_replicate]; split <;> rfl
theorem CaOk.rep {n w : Nat} (h9 : 1 ≤ n) (h : n ≤ 4096) (h1 : 1 ≤ w) (h2 : w ≤ 16) : CaOk n w (List.replicate n []) :=
  ⟨List.length_replicate, h9, h, h1, h2, fun j hj => by rw [get_rep]; exact List.nodup_nil, fun j hj => by rw [get_rep]; exact Nat.zero_le _⟩
theorem Cq.Ok.len {y : Cq} {n w : Nat} {s : List (List Int)} (h : y.Ok n w s) : y.qs.length = n := by rw [← h.ok.len, ← h.eq, List.length_map]
theorem Cq.Ok.get {y : Cq} {n w : Nat} {s : List (List Int)} (h : y.Ok n w s) {k : Int} (h0 : 0 ≤ k) (h1 : k < n) : (Cof.get y.qs k).xs = Cof.get s k := by
  obtain ⟨a, rfl⟩ := Int.eq_ofNat_of_zero_le h0
  rw [← h.eq, get_map In.xs (by rw [h.len]; omega)]
theorem Cq.Ok.m {y : Cq} {n w : Nat} {s : List (List Int)} (h : y.Ok n w s) {k : Int} (h0 : 0 ≤ k) (h1 : k < n) : (Cof.get y.qs k).m = (Cof.get s k).length := by
  rw [← h.get h0 h1]
  obtain ⟨a, rfl⟩ := Int.eq_ofNat_of_zero_le h0
  exact h.ml a (by omega)
theorem Cq.Ok.set {y : Cq} {n w : Nat} {s : List (List Int)} (h : y.Ok n w s) {k : Int} (h0 : 0 ≤ k) (h1 : k < n) {q : In Int} (hm : q.m = q.xs.length) (hv : q.xs.Nodup) (hv2 : q.xs.length ≤ w) : (Cq.mk y.A y.c (y.qs.set k.toNat q)).Ok n w (s.set k.toNat q.xs) := by
  refine ⟨by rw [List.map_set, h.eq], fun j hj => ?_, h.ok.set h0 h1 hv hv2⟩
  show (Cof.get (y.qs.set k.toNat q) (j : Int)).m = (Cof.get (y.qs.set k.toNat q) (j : Int)).xs.length
  rw [get_set (by rw [h.len]; omega)]
  split
  · exact hm
  · exact h.ml j hj
/-- A set's list taken out, and put back turned. -/
theorem ca_out {y : Cq} {n w : Nat} {s : List (List Int)} (h : y.Ok n w s) {k : Int} (h0 : 0 ≤ k) (h1 : k < n) {M : List HProp} {g : Hp} (hs : stars (allI encW y.qs :: M) g) :
    stars (own encW (Cof.get y.qs k).A (Cof.get s k).length (Cof.get y.qs k).c (Cof.get s k) :: allI encW (y.qs.eraseIdx k.toNat) :: M) g := by
  have := allI_out (E := encW) (i := k.toNat) (by rw [h.len]; omega) hs
  unfold ownI at this
  rw [show ((k.toNat : Nat) : Int) = k by omega, h.get h0 h1, h.m h0 h1] at this
  exact this
theorem ca_same {y : Cq} {n w : Nat} {s : List (List Int)} (h : y.Ok n w s) {k : Int} (h0 : 0 ≤ k) (h1 : k < n) {M : List HProp} {g : Hp}
    (hs : stars (own encW (Cof.get y.qs k).A (Cof.get s k).length (Cof.get y.qs k).c (Cof.get s k) :: allI encW (y.qs.eraseIdx k.toNat) :: M) g) : stars (allI encW y.qs :: M) g := by
  have hk : k.toNat < y.qs.length := by rw [h.len]; omega
  have hs2 : stars (ownI encW (Cof.get y.qs k) :: allI encW (y.qs.eraseIdx k.toNat) :: M) g := by
    unfold ownI; rw [h.m h0 h1, h.get h0 h1]; exact hs
  have h3 := allI_in (E := encW) (i := k.toNat) hk hs2
  have e : y.qs.set k.toNat (Cof.get y.qs k) = y.qs := by
    have : Cof.get y.qs k = y.qs[k.toNat] := by
      have := get_getElem (xs := y.qs) hk
      rwa [show ((k.toNat : Nat) : Int) = k by omega] at this
    rw [this]; exact List.set_getElem_self hk
  rw [e] at h3; exact h3
theorem ca_back {p n w : Nat} {y : Cq} {s : List (List Int)} (h : y.Ok n w s) {k : Int} (h0 : 0 ≤ k) (h1 : k < n) {q : In Int} (hm : q.m = q.xs.length) (hv : q.xs.Nodup) (hv2 : q.xs.length ≤ w) {g : Hp}
    (hs : stars [own encW q.A q.m q.c q.xs, allI encW (y.qs.eraseIdx k.toNat), caB p n w y, own (encIn Int) y.A n y.c (y.qs.set k.toNat q)] g) : isCa p n w (s.set k.toNat q.xs) g :=
  ⟨_, h.set h0 h1 hm hv hv2, stars_take [1, 1] rfl (allI_in (E := encW) (i := k.toNat) (by rw [h.len]; omega) hs)⟩
abbrev emI : In Int := ⟨none, 0, 0, []⟩
theorem em_all : ∀ (n : Nat) (h : Hp), allI encW (List.replicate n emI) h
  | 0, _ => trivial
  | n + 1, h => stars_new (own_nil encW _) (em_all n h)
theorem em_ok {n w : Nat} {A : Option Addr} {c : Nat} (h9 : 1 ≤ n) (h : n ≤ 4096) (h1 : 1 ≤ w) (h2 : w ≤ 16) : (Cq.mk A c (List.replicate n emI)).Ok n w (List.replicate n []) := by
  refine ⟨List.map_replicate, fun j hj => ?_, CaOk.rep h9 h h1 h2⟩
  show (Cof.get (List.replicate n emI) (j : Int)).m = (Cof.get (List.replicate n emI) (j : Int)).xs.length
  rw [get_getElem (by rw [List.length_replicate]; exact hj), List.getElem_replicate]; rfl
/-! the walks -/
theorem cnew_spec (n w : Nat) (h1 : 1 ≤ n) (h2 : n ≤ 4096) (hp : bits .and .i64 (n : Int) ((n : Int) - 1) = 0) (hw1 : 1 ≤ w) (hw2 : w ≤ 16) : Ctr Try.prog 22 [iV n, iV w] (fun _ => True) [] (fun v L => ∃ p, v = .tuple #[ptr p, iV 0] ∧ L = [isCa p n w (List.replicate n [])]) := by
  refine Ctr.intro Try.func22 rfl rfl (by decide +kernel) fun F hpre => ?_
  repeat' (first | (refine XL_id ?_; first | refine XL_nil ?_ | refine XL_guard_yes rfl rfl rfl ?_ | (refine XG_box ?_; (refine XL_box rfl (fun _ => rfl) (fun _ => ?_); refine XL_nB (by repeat' (first | exact .nil | apply NL.cons)) ?_)) | (refine XG_build ?_; (refine XL_build tt_ok rfl rfl rfl rfl rfl rfl rfl ?_; refine XL_aggN (by repeat' (first | exact .nil | apply NL.cons)) ?_)) | (refine XG_make ?_; (refine XL_make (encIn Int) emI tt_ok rfl rfl rfl rfl rfl rfl rfl rfl (by omega) (by omega) (by show (24 : Int) * _ ≤ _; omega) (by omega) (fun _ => rfl) (fun g => ?_))) | (refine XL_op tt_ok rfl rfl ?_; refine XL_int hp ?_) | (refine XL_op tt_ok rfl rfl ?_; try (first | refine XL_int (wrap_i64 (by omega) (by omega)) ?_ | refine XL_dec_f (by omega) ?_))) | (refine X_id ?_; first | refine X_seq ?_ | (refine X_regionN (by repeat' (exact .nil)) ?_) | refine X_skip ?_ | refine X_ret ?_ | refine X_cond_f rfl ?_) | (refine Y_id ?_; refine Y_then ?_))
  all_goals first
    | exact Y_ret2 rfl rfl rfl (stars_fin [0, 0] rfl (fun g hs => ⟨⟨_, _, _⟩, em_ok h1 h2 hw1 hw2, stars_take [1, 1] rfl (stars_new (em_all n _) hs)⟩)) ⟨_, rfl, rfl⟩
    | (exfalso; omega)
    | skip
  
set_option maxHeartbeats 4000000 in
theorem clook_spec (p n w : Nat) (y : Cq) (k t : Int) (l : List Int) (hw : 1 ≤ w) (h0 : 0 ≤ k) (h1 : k < n) (hn : n ≤ 4096) (hl : l.length ≤ 16) (hm : (Cof.get y.qs k).m = l.length) : FnC Try.prog 62 [ptr p, iV k, uV t] (fun h => caB p n w y h ∧ rdS (encIn Int) h y.A n y.qs ∧ rdS encW h (Cof.get y.qs k).A l.length l) (.tuple #[iV (idxI (qI t) l), iV 0]) := by
  refine Ctr.intro Try.func62 rfl rfl (by decide +kernel) fun F hpre => ?_
  obtain ⟨hb, hr, hx⟩ := hpre
  have hix := indexW_spec (Cof.get y.qs k).A l.length (Cof.get y.qs k).c l t (by omega)
  rw [← hm] at hix hx
  repeat' (first | (refine XL_id ?_; first | refine XL_nil ?_ | refine XL_guard_yes rfl rfl rfl ?_ | (refine XG_load ?_; first | refine XL_loadF tt_ok rfl (by assumption) rfl rfl rfl rfl ?_ | refine XL_el tt_ok rfl (by assumption) rfl (by omega) (by omega) rfl rfl rfl rfl ?_) | (refine XG_idx ?_; refine XL_idx tt_ok rfl rfl rfl rfl rfl (by assumption) (by omega) (by omega) rfl ?_) | (refine XG_call ?_; first | (refine XL_op tt_ok rfl rfl ?_) | refine XL_fn hix rfl rfl (fun g hg hL => hx.le hg) ?_) | (refine XL_op tt_ok rfl rfl ?_; try (refine XL_dec_f (by omega) ?_))) | (refine X_id ?_; first | refine X_seq ?_ | (refine X_regionN (by repeat' (exact .nil)) ?_) | refine X_skip ?_ | refine X_ret ?_ | refine X_block ?_ | refine X_cond_f rfl ?_) | (refine Y_id ?_; first | refine Y_then ?_ | refine Y_block_normal ?_))
  all_goals first
    | exact Y_fn2 rfl rfl rfl rfl
    | (exfalso; omega)
    | skip
  
end Go.Proofs.Ythmllhihldbfoaa
