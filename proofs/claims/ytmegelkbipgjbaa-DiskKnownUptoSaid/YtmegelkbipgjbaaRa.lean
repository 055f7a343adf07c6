/- The reference's disk, walked; bytes compared and copied. -/
import Derived.Test.YtmegelkbipgjbaaWa
set_option linter.unusedVariables false
namespace Go.Proofs.Ytmegelkbipgjbaa
open Go.RowKit Go.Cof

theorem copyB_spec (A : Option Addr) (m c : Nat) (xs : List Int) (hm : m ≤ 140737488351232) : Ctr Try.prog 34 [.slice A m c] (fun h => rdS encU h A m xs) [] (fun v L => ∃ A' c', v = .slice A' m c' ∧ L = [own encU A' m c' xs]) := by
  refine Ctr.intro Try.func34 rfl rfl (by decide +kernel) fun F hpre => ?_
  have r1 : rdS encU F.heap A m xs := hpre
  refine X_mem (fun _ hs => stars_new (own_nil encU _) hs) ?_
  repeat' (first | (refine XL_id ?_; first | refine XL_nil ?_ | (refine XG_call ?_; (refine XL_appF (E := encU) tt_ok 0 rfl rfl r1 rfl rfl rfl rfl rfl rfl rfl (by show (_ : Nat) * 1 ≤ _; omega) (by omega) (fun _ _ => rfl) (fun A2 c2 => ?_))) | (refine XL_op tt_ok rfl rfl ?_)) | (refine X_id ?_; first | refine X_seq ?_ | (refine X_regionN (by repeat' (first | exact .nil | apply NL.cons)) ?_) | refine X_ret ?_) | (refine Y_id ?_; refine Y_then ?_))
  all_goals first
    | (rw [show 0 + m = m from Nat.zero_add m]; exact Y_ret1 rfl rfl (fun h hs => hs) ⟨_, _, rfl, rfl⟩)
    | skip
  
set_option maxHeartbeats 4000000 in
theorem eqB_spec (A B : Option Addr) (m c m' c' : Nat) (xs ys : List Int) (hm : m ≤ 9223372036854775807) (hm' : m' ≤ 9223372036854775807) : FnC Try.prog 13 [.slice A m c, .slice B m' c'] (fun h => rdS encU h A m xs ∧ rdS encU h B m' ys) (.bool (decide (xs = ys))) := by
  refine Ctr.intro Try.func13 rfl rfl (by decide +kernel) fun F hpre => ?_
  have r1 : rdS encU F.heap A m xs := hpre.1
  have r2 : rdS encU F.heap B m' ys := hpre.2
  have hl1 := r1.1
  have hl2 := r2.1
  repeat' (first | (refine XL_id ?_; first | refine XL_nil ?_ | (refine XL_op tt_ok rfl rfl ?_; try (refine XL_dec (fun _ => ?_) (fun _ => ?_)))) | (refine X_id ?_; first | refine X_seq ?_ | (refine X_regionN (by repeat' (exact .nil)) ?_) | refine X_skip ?_ | refine X_ret ?_ | refine X_block ?_ | refine X_cond_t rfl ?_ | refine X_cond_f rfl ?_) | (refine Y_id ?_; first | refine Y_then ?_ | refine Y_then_ret ?_))
  · exact Y_fn1 rfl rfl (bool_f fun h => by rw [h] at hl1; omega)
  have hll : xs.length = ys.length := by omega
  refine X_loopD [0, 1] (fun (i : Nat) => [(5, .int .i64 i)]) (fun _ => []) (fun i => i ≤ m ∧ ∀ j : Nat, j < i → Cof.get xs j = Cof.get ys j) (fun i => m - i) 0 rfl ⟨Nat.zero_le _, fun j hj => by omega⟩ (by (repeat' (first | exact trivial | refine And.intro rfl ?_)); done) (fun _ h => h) ?_
  intro i hi
  obtain ⟨hi, hx⟩ := hi
  by_cases hlt : i < m
  · repeat' (first | (refine XL_id ?_; first | refine XL_nil ?_ | (refine XL_op tt_ok rfl rfl ?_; try (first | refine XL_int (wrap_i64 (by omega) (by omega)) ?_ | refine XL_dec_t (by omega) ?_))) | (refine XD_id ?_; first | (refine XD_thaw thaw ?_; refine XD_nil ?_) | (refine XD_id ?_; (first | (refine XD_uL rfl ?_; refine XD_s rfl rfl rfl (XV_el tt_ok rfl (rdS.le (by assumption) hFG) rfl (by omega) (by omega) rfl rfl rfl) rfl ?_) | (refine XD_uI rfl ?_; refine XD_s rfl rfl rfl (XV_idx tt_ok rfl rfl rfl rfl rfl (rdS.le (by assumption) hFG) (by omega) (by omega)) rfl ?_) | (refine XD_u rfl rfl ?_; refine XD_s rfl rfl rfl (XV_op tt_ok rfl) rfl ?_)); try (refine XD_dec (fun _ => ?_) (fun _ => ?_)))) | (refine X_id ?_; first | (refine X_drawS (id := 6) [0, 1, 2, 3, 4, 5, 6, 7, 8] (fun _ => .s) 8 (by repeat' (exact Split.nil)) mixed (by decide +kernel) ?_; intro G hFG hM thaw; show XD _ _ _ _ _ _ [0, 1, 2, 3, 4, 5, 6, 7, 8] _ _ _) | refine X_seq ?_ | (refine X_regionN (by repeat' (exact .nil)) ?_) | refine X_skip ?_ | refine X_ret ?_ | refine X_block ?_ | refine X_cond_t rfl ?_ | refine X_cond_f rfl ?_) | (refine Y_id ?_; first | refine Y_then ?_ | refine Y_then_ret ?_ | refine Y_block_normal ?_ | refine Y_block_ret ?_))
    all_goals first
      | exact Y_fn1 rfl rfl (bool_f fun h => by rename_i hn; exact hn (by rw [h]))
      | exact Y_again (i + 1) fun _ _ hf hs => ⟨⟨by omega, fun j hj => by
          by_cases hj2 : j < i
          · exact hx j hj2
          · obtain rfl : j = i := by omega
            exact Decidable.of_not_not (by assumption)⟩, by omega, hf.sub (by (repeat' (first | exact trivial | refine And.intro rfl ?_)); done), hs.imp fun _ _ => trivial⟩
      | skip
    
  · repeat' (first | (refine XL_id ?_; first | refine XL_nil ?_ | (refine XL_op tt_ok rfl rfl ?_; try (refine XL_dec_f (by omega) ?_))) | (refine X_id ?_; first | refine X_seq ?_ | (refine X_regionN (by repeat' (exact .nil)) ?_) | refine X_ret ?_ | refine X_exit ?_ | refine X_cond_f rfl ?_) | (refine Y_id ?_; first | refine Y_then ?_ | refine Y_then_exit ?_ | refine Y_block_hit ?_))
    exact Y_fn1 rfl rfl (bool_t (get_ext hll fun j hj => hx j (by omega)))
theorem rwithin_spec (x a b : Int) : FnC Try.prog 23 [iV x, iV a, iV b] (fun _ => True) (.bool (decide (a ≤ x ∧ x ≤ b))) := by
  refine Ctr.intro Try.func23 rfl rfl (by decide +kernel) fun F hpre => ?_
  repeat' (first | (refine XL_id ?_; first | refine XL_nil ?_ | refine XL_guard_yes rfl rfl rfl ?_ | refine XL_guard_no rfl rfl rfl rfl rfl ?_ | (refine XL_op tt_ok rfl rfl ?_; try (refine XL_dec (fun _ => ?_) (fun _ => ?_)))) | (refine X_id ?_; first | refine X_seq ?_ | (refine X_regionN (by repeat' (exact .nil)) ?_) | refine X_ret ?_) | (refine Y_id ?_; refine Y_then ?_))
  all_goals (refine Y_fn1 rfl rfl ?_)
  all_goals (first | exact bool_t (by omega) | exact bool_f (by omega))
/-! the reference in memory -/
structure Rq where
  A : Option Addr
  c : Nat
  qs : List (In Int)
structure Rq.Ok (y : Rq) (n : Nat) (s : List (List Int)) : Prop where
  eq : y.qs.map In.xs = s
  ml : ∀ j : Nat, j < n → (Cof.get y.qs (j : Int)).m = (Cof.get y.qs (j : Int)).xs.length
  ok : DOk n s
abbrev rfM (p n : Nat) (y : Rq) : List HProp := [blk p [.bool true, .slice y.A n y.c] 57, own (encIn Int) y.A n y.c y.qs, allI encU y.qs]
def isRf (p n : Nat) (s : List (List Int)) : HProp := fun h => ∃ y : Rq, y.Ok n s ∧ stars (rfM p n y) h
theorem Rq.Ok.len {y : Rq} {n : Nat} {s : List (List Int)} (h : y.Ok n s) : y.qs.length = n := by rw [← h.ok.len, ← h.eq, List.length_map]
theorem Rq.Ok.get {y : Rq} {n : Nat} {s : List (List Int)} (h : y.Ok n s) {k : Int} (h0 : 0 ≤ k) (h1 : k < n) : (Cof.get y.qs k).xs = Cof.get s k := by
  obtain ⟨a, rfl⟩ := Int.eq_ofNat_of_zero_le h0
  rw [← h.eq, get_map In.xs (by rw [h.len]; omega)]
theorem Rq.Ok.m {y : Rq} {n : Nat} {s : List (List Int)} (h : y.Ok n s) {k : Int} (h0 : 0 ≤ k) (h1 : k < n) : (Cof.get y.qs k).m = (Cof.get s k).length := by
  rw [← h.get h0 h1]
  obtain ⟨a, rfl⟩ := Int.eq_ofNat_of_zero_le h0
  exact h.ml a (by omega)
theorem Rq.Ok.set {y : Rq} {n : Nat} {s : List (List Int)} (h : y.Ok n s) {k : Int} (h0 : 0 ≤ k) (h1 : k < n) {q : In Int} (hm : q.m = q.xs.length) (hq : q.xs = [] ∨ q.xs.length = 256) : (Rq.mk y.A y.c (y.qs.set k.toNat q)).Ok n (s.set k.toNat q.xs) := by
  refine ⟨by rw [List.map_set, h.eq], fun j hj => ?_, h.ok.set h0 h1 hq⟩
  show (Cof.get (y.qs.set k.toNat q) (j : Int)).m = (Cof.get (y.qs.set k.toNat q) (j : Int)).xs.length
  rw [get_set (by rw [h.len]; omega)]
  split
  · exact hm
  · exact h.ml j hj
/-- The slot's old page out, a new one in. -/
theorem rf_put {p n : Nat} {y : Rq} {s : List (List Int)} (h : y.Ok n s) {k : Int} (h0 : 0 ≤ k) (h1 : k < n) {q : In Int} (hm : q.m = q.xs.length) (hq : q.xs = [] ∨ q.xs.length = 256) {g : Hp}
    (hs : stars [own encU q.A q.m q.c q.xs, allI encU y.qs, blk p [.bool true, .slice y.A n y.c] 57, own (encIn Int) y.A n y.c (y.qs.set k.toNat q)] g) : isRf p n (s.set k.toNat q.xs) g := by
  refine ⟨_, h.set h0 h1 hm hq, ?_⟩
  have hk : k.toNat < y.qs.length := by rw [h.len]; omega
  have q1 := allI_out (E := encU) hk (stars_take [1, 0] rfl hs)
  have q2 : stars [ownI encU q, allI encU (y.qs.eraseIdx k.toNat), blk p [.bool true, .slice y.A n y.c] 57, own (encIn Int) y.A n y.c (y.qs.set k.toNat q)] g := stars_only [2, 1, 1, 1] rfl g q1
  exact stars_take [1, 1] rfl (allI_in (E := encU) hk q2)
theorem rf_rd {p n : Nat} {y : Rq} {s : List (List Int)} (h : y.Ok n s) {k : Int} (h0 : 0 ≤ k) (h1 : k < n) {g : Hp} (hs : allI encU y.qs g) : rdS encU g (Cof.get y.qs k).A (Cof.get y.qs k).m (Cof.get s k) := by
  have := allI_rd hs (i := k.toNat) (by rw [h.len]; omega)
  rw [show ((k.toNat : Nat) : Int) = k by omega, h.get h0 h1] at this
  exact this
theorem allI_at {α : Type} {E : Enc α} {qs : List (In α)} {L : List HProp} (k : Nat) (hk : L[k]? = some (allI E qs)) {h : Hp} (hs : stars L h) : allI E qs h := let ⟨_, hl, hb⟩ := at_mem k hk hs; stars_up hb hl
abbrev emI : In Int := ⟨none, 0, 0, []⟩
theorem em_all : ∀ (n : Nat) (h : Hp), allI encU (List.replicate n emI) h
  | 0, _ => trivial
  | n + 1, h => stars_new (own_nil encU _) (em_all n h)
theorem em_ok {n : Nat} {A : Option Addr} {c : Nat} (h : n ≤ 1024) : (Rq.mk A c (List.replicate n emI)).Ok n (List.replicate n []) := by
  refine ⟨List.map_replicate, fun j hj => ?_, DOk.rep h⟩
  show (Cof.get (List.replicate n emI) (j : Int)).m = (Cof.get (List.replicate n emI) (j : Int)).xs.length
  rw [get_getElem (by rw [List.length_replicate]; exact hj), List.getElem_replicate]; rfl
theorem rnew_bad (n : Int) (h : n < 0 ∨ 1024 < n) : FnC Try.prog 14 [iV n] (fun _ => True) (.tuple #[.pointer none, iV 2]) := by
  refine Ctr.intro Try.func14 rfl rfl (by decide +kernel) fun F hpre => ?_
  have hw := rwithin_spec n 0 1024
  rw [decide_eq_false (show ¬ (0 ≤ n ∧ n ≤ 1024) by omega)] at hw
  repeat' (first | (refine XL_id ?_; first | refine XL_nil ?_ | (refine XG_call ?_; refine XL_fn hw rfl rfl (fun _ _ _ => trivial) ?_) | (refine XL_op tt_ok rfl rfl ?_)) | (refine X_id ?_; first | refine X_seq ?_ | (refine X_regionN (by repeat' (exact .nil)) ?_) | refine X_ret ?_ | refine X_cond_t rfl ?_) | (refine Y_id ?_; first | refine Y_then ?_ | refine Y_then_ret ?_))
  all_goals first
    | exact Y_fn2 rfl rfl rfl rfl
    | (exfalso; omega)
    | skip
  
theorem rnew_ok (n : Nat) (h : n ≤ 1024) : Ctr Try.prog 14 [iV n] (fun _ => True) [] (fun v L => ∃ p, v = .tuple #[ptr p, iV 0] ∧ L = [isRf p n (List.replicate n [])]) := by
  refine Ctr.intro Try.func14 rfl rfl (by decide +kernel) fun F hpre => ?_
  have hw := rwithin_spec n 0 1024
  rw [decide_eq_true (show (0 ≤ (n : Int) ∧ (n : Int) ≤ 1024) by omega)] at hw
  repeat' (first | (refine XL_id ?_; first | refine XL_nil ?_ | (refine XG_box ?_; (refine XL_box rfl (fun _ => rfl) (fun _ => ?_); refine XL_nB (by repeat' (first | exact .nil | apply NL.cons)) ?_)) | (refine XG_build ?_; (refine XL_build tt_ok rfl rfl rfl rfl rfl rfl rfl ?_; refine XL_aggN (by repeat' (first | exact .nil | apply NL.cons)) ?_)) | (refine XG_make ?_; (refine XL_make (encIn Int) emI tt_ok rfl rfl rfl rfl rfl rfl rfl rfl (by omega) (by omega) (by show (24 : Int) * _ ≤ _; omega) (by omega) (fun _ => rfl) (fun g => ?_))) | (refine XG_call ?_; refine XL_fn hw rfl rfl (fun _ _ _ => trivial) ?_) | (refine XL_op tt_ok rfl rfl ?_)) | (refine X_id ?_; first | refine X_seq ?_ | (refine X_regionN (by repeat' (exact .nil)) ?_) | refine X_skip ?_ | refine X_ret ?_ | refine X_cond_f rfl ?_) | (refine Y_id ?_; refine Y_then ?_))
  all_goals first
    | exact Y_ret2 rfl rfl rfl (stars_fin [0, 0] rfl (fun g hs => ⟨⟨_, _, _⟩, em_ok h, stars_take [1, 1] rfl (stars_new (em_all n _) hs)⟩)) ⟨_, rfl, rfl⟩
    | (exfalso; omega)
    | skip
  
abbrev rfB (p n : Nat) (y : Rq) : HProp := blk p [.bool true, .slice y.A n y.c] 57
theorem rslots_spec (p n : Nat) (y : Rq) : FnC Try.prog 16 [ptr p] (fun h => rfB p n y h) (iV n) := by
  refine Ctr.intro Try.func16 rfl rfl (by decide +kernel) fun F hpre => ?_
  have hb : rfB p n y F.heap := hpre
  repeat' (first | (refine XL_id ?_; first | refine XL_nil ?_ | (refine XG_load ?_; refine XL_loadF tt_ok rfl (by assumption) rfl rfl rfl rfl ?_) | (refine XL_op tt_ok rfl rfl ?_)) | (refine X_id ?_; first | refine X_seq ?_ | (refine X_regionN (by repeat' (exact .nil)) ?_) | refine X_skip ?_ | refine X_ret ?_ | refine X_cond_f rfl ?_) | (refine Y_id ?_; refine Y_then ?_))
  all_goals first
    | exact Y_fn1 rfl rfl rfl
    | skip
  
theorem slotsX_spec (p n : Nat) : FnC Try.prog 15 [ptr p] (fun h => ∃ mb, dkB p n mb h) (iV n) := ⟨(slots_spec p n 0).1, fun F w ⟨mb, hp⟩ hs => (slots_spec p n mb).2 F w hp hs⟩
theorem rslotsX_spec (p n : Nat) : FnC Try.prog 16 [ptr p] (fun h => ∃ y, rfB p n y h) (iV n) := ⟨(rslots_spec p n ⟨none, 0, []⟩).1, fun F w ⟨y, hp⟩ hs => (rslots_spec p n y).2 F w hp hs⟩
theorem rslot_spec (p n : Nat) (y : Rq) (k : Int) (hn : n ≤ 1024) : FnC Try.prog 33 [ptr p, iV k] (fun h => rfB p n y h) (iV (slotE n k)) := by
  refine Ctr.intro Try.func33 rfl rfl (by decide +kernel) fun F hpre => ?_
  have hb : rfB p n y F.heap := hpre
  have hw := rwithin_spec k 0 ((n : Int) - 1)
  by_cases h : 0 ≤ k ∧ k < n
  · rw [show slotE n k = 0 from if_pos h]
    rw [decide_eq_true (show (0 ≤ k ∧ k ≤ (n : Int) - 1) by omega)] at hw
    repeat' (first | (refine XL_id ?_; first | refine XL_nil ?_ | refine XL_guard_yes rfl rfl rfl ?_ | (refine XG_load ?_; refine XL_loadF tt_ok rfl (by assumption) rfl rfl rfl rfl ?_) | (refine XG_call ?_; first | (refine XL_op tt_ok rfl rfl ?_) | refine XL_fn hw rfl rfl (fun _ _ _ => trivial) ?_) | (refine XL_op tt_ok rfl rfl ?_; try (refine XL_int (wrap_i64 (by omega) (by omega)) ?_))) | (refine X_id ?_; first | refine X_seq ?_ | (refine X_regionN (by repeat' (exact .nil)) ?_) | refine X_skip ?_ | refine X_ret ?_ | refine X_cond_f rfl ?_) | (refine Y_id ?_; refine Y_then ?_))
    all_goals first
      | exact Y_fn1 rfl rfl rfl
      | (exfalso; omega)
      | skip
    
  · rw [show slotE n k = 2 from if_neg h]
    rw [decide_eq_false (show ¬ (0 ≤ k ∧ k ≤ (n : Int) - 1) by omega)] at hw
    repeat' (first | (refine XL_id ?_; first | refine XL_nil ?_ | refine XL_guard_yes rfl rfl rfl ?_ | (refine XG_load ?_; refine XL_loadF tt_ok rfl (by assumption) rfl rfl rfl rfl ?_) | (refine XG_call ?_; first | (refine XL_op tt_ok rfl rfl ?_) | refine XL_fn hw rfl rfl (fun _ _ _ => trivial) ?_) | (refine XL_op tt_ok rfl rfl ?_; try (refine XL_int (wrap_i64 (by omega) (by omega)) ?_))) | (refine X_id ?_; first | refine X_seq ?_ | (refine X_regionN (by repeat' (exact .nil)) ?_) | refine X_skip ?_ | refine X_ret ?_ | refine X_cond_t rfl ?_ | refine X_cond_f rfl ?_) | (refine Y_id ?_; first | refine Y_then ?_ | refine Y_then_ret ?_))
    all_goals first
      | exact Y_fn1 rfl rfl rfl
      | (exfalso; omega)
      | skip
    
set_option maxHeartbeats 4000000 in
theorem rwrite_spec (p n : Nat) (s : List (List Int)) (k : Int) (A : Option Addr) (m c : Nat) (xs : List Int) (hmm : m ≤ 140737488351232) : Ctr Try.prog 29 [ptr p, iV k, .slice A m c] (fun h => rdS encU h A m xs) [isRf p n s] (fun v L => v = iV (wrE n k xs) ∧ L = [isRf p n (wrS n k xs s)]) := by
  refine Ctr.intro Try.func29 rfl rfl (by decide +kernel) fun F hpre => ?_
  have r1 : rdS encU F.heap A m xs := hpre
  have hm := r1.1
  refine X_openp 0 rfl (fun _ hh => hh) fun y hok => ?_
  have hl := hok.len
  have hc := hok.ok.cap
  have hsl := rslot_spec p n y k hc
  by_cases h : 0 ≤ k ∧ k < n
  · rw [show slotE n k = 0 from if_pos h] at hsl
    obtain ⟨h0, h1⟩ := h
    by_cases hx : xs.length = 256
    · have hh : 0 ≤ k ∧ k < (n : Int) ∧ xs.length = 256 := ⟨h0, h1, hx⟩
      rw [show wrE n k xs = 0 from if_pos hh, show wrS n k xs s = s.set k.toNat xs from if_pos hh]
      repeat' (first | (refine XL_id ?_; first | refine XL_nil ?_ | (refine XG_store ?_; refine XL_putO tt_ok 3 (⟨_, m, _, xs⟩ : In Int) rfl rfl rfl rfl rfl rfl rfl (by omega) rfl ?_) | (refine XG_call ?_; first | (refine XL_op tt_ok rfl rfl ?_) | refine XL_fn hsl rfl rfl (fun g hg hL => blk_at 0 rfl hL) ?_ | (refine XL_callK [] (copyB_spec A m c xs hmm) rfl rfl (fun _ => rfl) (fun g hg hL => r1.le (hFG.trans hg)) (fun u L hv => ?_); obtain ⟨A2, c2, rfl, rfl⟩ := hv)) | (refine XL_op tt_ok rfl rfl ?_; try (refine XL_dec_f (by omega) ?_))) | (refine XD_id ?_; first | refine XD_nil ?_ | (refine XD_id ?_; (first | (refine XD_uL rfl ?_; refine XD_s rfl rfl rfl (XV_load tt_ok rfl (blk_at 0 rfl hM) rfl rfl rfl) rfl ?_) | (refine XD_uI rfl ?_; refine XD_s rfl rfl rfl (XV_idx tt_ok rfl rfl rfl rfl rfl (rd_at 1 rfl hM) (by omega) (by omega)) rfl ?_) | (refine XD_u rfl rfl ?_; refine XD_s rfl rfl rfl (XV_op tt_ok rfl) rfl ?_))) | refine XD_m rfl rfl ?_ | (refine XD_thaw thaw ?_; refine XD_l rfl rfl ?_)) | (refine X_id ?_; first | (refine X_drawS (id := 6) [0, 1, 2, 3, 4, 5, 6, 7, 8] (fun | 6 => .m | 8 => .l | _ => .s) 8 (by (repeat apply Split.blk); apply Split.frz; (repeat apply Split.blk); apply Split.keep; repeat' (exact Split.nil)) mixed (by decide +kernel) ?_; intro G hFG hM thaw; show XD _ _ _ _ _ _ [0, 1, 2, 3, 4, 5, 6, 7, 8] _ _ _) | refine X_seq ?_ | (refine X_regionN (by repeat' (first | exact .nil | apply NL.cons)) ?_) | refine X_skip ?_ | refine X_ret ?_ | refine X_cond_f rfl ?_) | (refine Y_id ?_; first | refine Y_then ?_ | refine Y_m ?_ | refine Y_l ?_))
      all_goals first
        | exact Y_ret1 rfl rfl (fun g hg => stars_fin [0, 0, 0, 0] rfl (fun g hs => rf_put hok h0 h1 (q := ⟨A2, m, c2, xs⟩) hm (.inr hx) hs) g hg) ⟨rfl, rfl⟩
        | (exfalso; omega)
        | skip
      
    · have hh : ¬ (0 ≤ k ∧ k < (n : Int) ∧ xs.length = 256) := fun g => hx g.2.2
      rw [show wrE n k xs = 2 from if_neg hh, show wrS n k xs s = s from if_neg hh]
      repeat' (first | (refine XL_id ?_; first | refine XL_nil ?_ | (refine XG_call ?_; first | (refine XL_op tt_ok rfl rfl ?_) | refine XL_fn hsl rfl rfl (fun g hg hL => blk_at 0 rfl hL) ?_) | (refine XL_op tt_ok rfl rfl ?_; try (first | refine XL_dec_t (by omega) ?_ | refine XL_dec_f (by omega) ?_))) | (refine X_id ?_; first | refine X_seq ?_ | (refine X_regionN (by repeat' (first | exact .nil | apply NL.cons)) ?_) | refine X_skip ?_ | refine X_ret ?_ | refine X_cond_t rfl ?_ | refine X_cond_f rfl ?_) | (refine Y_id ?_; first | refine Y_then ?_ | refine Y_then_ret ?_))
      all_goals first
        | exact Y_ret1 rfl rfl (stars_fin [0, 0, 0] rfl (fun g hs => ⟨y, hok, hs⟩)) ⟨rfl, rfl⟩
        | (exfalso; omega)
        | skip
      
  · rw [show slotE n k = 2 from if_neg h] at hsl
    have hh : ¬ (0 ≤ k ∧ k < (n : Int) ∧ xs.length = 256) := fun g => h ⟨g.1, g.2.1⟩
    rw [show wrE n k xs = 2 from if_neg hh, show wrS n k xs s = s from if_neg hh]
    repeat' (first | (refine XL_id ?_; first | refine XL_nil ?_ | (refine XG_call ?_; refine XL_fn hsl rfl rfl (fun g hg hL => blk_at 0 rfl hL) ?_) | (refine XL_op tt_ok rfl rfl ?_; try (refine XL_dec_t (by omega) ?_))) | (refine X_id ?_; first | refine X_seq ?_ | (refine X_regionN (by repeat' (first | exact .nil | apply NL.cons)) ?_) | refine X_ret ?_ | refine X_cond_t rfl ?_) | (refine Y_id ?_; first | refine Y_then ?_ | refine Y_then_ret ?_))
    all_goals first
      | exact Y_ret1 rfl rfl (stars_fin [0, 0, 0] rfl (fun g hs => ⟨y, hok, hs⟩)) ⟨rfl, rfl⟩
      | (exfalso; omega)
      | skip
    
set_option maxHeartbeats 4000000 in
theorem rread_ok (p n : Nat) (s : List (List Int)) (k : Int) (hr : rdE n k s = 0) : Ctr Try.prog 28 [ptr p, iV k] (fun _ => True) [isRf p n s] (fun v L => ∃ A c, v = .tuple #[.slice A 256 c, iV 0] ∧ L = [own encU A 256 c (Cof.get s k), isRf p n s]) := by
  obtain ⟨h0, h1, hne⟩ := rdE_in hr
  refine Ctr.intro Try.func28 rfl rfl (by decide +kernel) fun F hpre => ?_
  refine X_openp 0 rfl (fun _ hh => hh) fun y hok => ?_
  have hl := hok.len
  have hc := hok.ok.cap
  have hpg := hok.ok.page h0 h1 hne
  have hm : (Cof.get y.qs k).m = 256 := by rw [hok.m h0 h1, hpg]
  have hsl := rslot_spec p n y k hc
  rw [show slotE n k = 0 from if_pos ⟨h0, h1⟩] at hsl
  have hcp := copyB_spec (Cof.get y.qs k).A (Cof.get y.qs k).m (Cof.get y.qs k).c (Cof.get s k) (by omega)
  repeat' (first | (refine XL_id ?_; first | refine XL_nil ?_ | (refine XG_load ?_; first | refine XL_load tt_ok 0 rfl rfl rfl rfl rfl rfl ?_ | refine XL_elo tt_ok 1 rfl rfl rfl (by omega) (by omega) rfl rfl rfl rfl ?_) | (refine XG_idx ?_; refine XL_idxo tt_ok 1 rfl rfl rfl rfl rfl rfl (by omega) (by omega) rfl ?_) | (refine XG_call ?_; first | (refine XL_op tt_ok rfl rfl ?_) | refine XL_fn hsl rfl rfl (fun g hg hL => blk_at 0 rfl hL) ?_ | (refine XL_callK [] hcp rfl rfl (fun _ => rfl) (fun g hg hL => rf_rd (p := p) hok h0 h1 (allI_at 2 rfl hL)) (fun u L hv => ?_); obtain ⟨A2, c2, rfl, rfl⟩ := hv)) | (refine XL_op tt_ok rfl rfl ?_; try (refine XL_dec_f (by omega) ?_))) | (refine X_id ?_; first | refine X_seq ?_ | (refine X_regionN (by repeat' (first | exact .nil | apply NL.cons)) ?_) | refine X_skip ?_ | refine X_ret ?_ | refine X_cond_f rfl ?_) | (refine Y_id ?_; refine Y_then ?_))
  all_goals first
    | (rw [hm]; exact Y_ret2 rfl rfl rfl (fun g hg => stars_take [1, 0] rfl (stars_shut (A := isRf p n s) (fun g hs => ⟨y, hok, hs⟩) (stars_only [1, 1, 1, 0] rfl g hg))) ⟨_, _, rfl, rfl⟩)
    | (exfalso; omega)
    | skip
  
theorem rread_no (p n : Nat) (s : List (List Int)) (k : Int) (hr : rdE n k s ≠ 0) : Ctr Try.prog 28 [ptr p, iV k] (fun _ => True) [isRf p n s] (fun v L => v = .tuple #[.slice none 0 0, iV (rdE n k s)] ∧ L = [isRf p n s]) := by
  refine Ctr.intro Try.func28 rfl rfl (by decide +kernel) fun F hpre => ?_
  refine X_openp 0 rfl (fun _ hh => hh) fun y hok => ?_
  have hl := hok.len
  have hc := hok.ok.cap
  have hsl := rslot_spec p n y k hc
  by_cases h : 0 ≤ k ∧ k < n
  · have he : Cof.get s k = [] := by
      refine Classical.byContradiction fun hne => hr ?_
      unfold rdE; rw [if_pos h, if_neg hne]
    rw [show rdE n k s = 60 by unfold rdE; rw [if_pos h, if_pos he]]
    rw [show slotE n k = 0 from if_pos h] at hsl
    obtain ⟨h0, h1⟩ := h
    have hm : (Cof.get y.qs k).m = 0 := by rw [hok.m h0 h1, he]; rfl
    repeat' (first | (refine XL_id ?_; first | refine XL_nil ?_ | (refine XG_load ?_; first | refine XL_load tt_ok 0 rfl rfl rfl rfl rfl rfl ?_ | refine XL_elo tt_ok 1 rfl rfl rfl (by omega) (by omega) rfl rfl rfl rfl ?_) | (refine XG_idx ?_; refine XL_idxo tt_ok 1 rfl rfl rfl rfl rfl rfl (by omega) (by omega) rfl ?_) | (refine XG_call ?_; first | (refine XL_op tt_ok rfl rfl ?_) | refine XL_fn hsl rfl rfl (fun g hg hL => blk_at 0 rfl hL) ?_) | (refine XL_op tt_ok rfl rfl ?_; try (first | refine XL_dec_t (by omega) ?_ | refine XL_dec_f (by omega) ?_))) | (refine X_id ?_; first | refine X_seq ?_ | (refine X_regionN (by repeat' (first | exact .nil | apply NL.cons)) ?_) | refine X_skip ?_ | refine X_ret ?_ | refine X_cond_t rfl ?_ | refine X_cond_f rfl ?_) | (refine Y_id ?_; first | refine Y_then ?_ | refine Y_then_ret ?_))
    all_goals first
      | exact Y_ret2 rfl rfl rfl (stars_fin [0, 0, 0] rfl (fun g hs => ⟨y, hok, hs⟩)) ⟨rfl, rfl⟩
      | (exfalso; omega)
      | skip
    
  · rw [show rdE n k s = 2 from if_neg h]
    rw [show slotE n k = 2 from if_neg h] at hsl
    repeat' (first | (refine XL_id ?_; first | refine XL_nil ?_ | (refine XG_call ?_; refine XL_fn hsl rfl rfl (fun g hg hL => blk_at 0 rfl hL) ?_) | (refine XL_op tt_ok rfl rfl ?_; try (refine XL_dec_t (by omega) ?_))) | (refine X_id ?_; first | refine X_seq ?_ | (refine X_regionN (by repeat' (first | exact .nil | apply NL.cons)) ?_) | refine X_ret ?_ | refine X_cond_t rfl ?_) | (refine Y_id ?_; first | refine Y_then ?_ | refine Y_then_ret ?_))
    all_goals first
      | exact Y_ret2 rfl rfl rfl (stars_fin [0, 0, 0] rfl (fun g hs => ⟨y, hok, hs⟩)) ⟨rfl, rfl⟩
      | (exfalso; omega)
      | skip
    
set_option maxHeartbeats 4000000 in
theorem rerase_spec (p n : Nat) (s : List (List Int)) (k : Int) : Ctr Try.prog 25 [ptr p, iV k] (fun _ => True) [isRf p n s] (fun v L => v = iV (rdE n k s) ∧ L = [isRf p n (erS n k s)]) := by
  refine Ctr.intro Try.func25 rfl rfl (by decide +kernel) fun F hpre => ?_
  by_cases hr : rdE n k s = 0
  · obtain ⟨h0, h1, hne⟩ := rdE_in hr
    rw [show erS n k s = s.set k.toNat [] from if_pos hr, hr]
    repeat' (first | (refine XL_id ?_; first | refine XL_nil ?_ | (refine XG_call ?_; (refine XL_callK [0] (rread_ok p n s k hr) rfl rfl (fun _ => rfl) (fun _ _ _ => trivial) (fun u L hv => ?_); obtain ⟨A2, c2, rfl, rfl⟩ := hv)) | (refine XL_op tt_ok rfl rfl ?_; try (refine XL_dec_t (by omega) ?_))) | (refine X_id ?_; first | (refine X_regionEN (id := 0) [0, 1] rfl (by repeat' (first | exact .nil | apply NL.cons)) ?_) | (refine X_regionEN (id := 1) [0, 1] rfl (by repeat' (first | exact .nil | apply NL.cons)) ?_) | (refine X_regionEN (id := 2) [0, 1, 6] rfl (by repeat' (first | exact .nil | apply NL.cons)) ?_) | refine X_cond_t rfl (hold ?_) | refine X_seq ?_) | (refine Y_id ?_; refine Y_then ?_))
    all_goals (try (intro _))
    all_goals first
      | (exfalso; omega)
      | skip
    refine X_openp 1 rfl (fun _ hh => hh) fun y hok => ?_
    have hl := hok.len
    repeat' (first | (refine XL_id ?_; first | refine XL_nil ?_ | (refine XG_load ?_; refine XL_load tt_ok 0 rfl rfl rfl rfl rfl rfl ?_) | (refine XG_idx ?_; refine XL_idxo tt_ok 1 rfl rfl rfl rfl rfl rfl (by omega) (by omega) rfl ?_) | (refine XG_store ?_; refine XL_putO tt_ok 1 emI rfl rfl rfl rfl rfl rfl rfl (by omega) rfl ?_) | (refine XL_op tt_ok rfl rfl ?_)) | (refine X_id ?_; first | refine X_seq ?_ | (refine X_regionN (by repeat' (first | exact .nil | apply NL.cons)) ?_) | refine X_ret ?_) | (refine Y_id ?_; refine Y_then ?_))
    all_goals first
      | exact Y_ret1 rfl rfl (fun g hg => stars_fin [0, 2, 0, 0] rfl (fun g hs => rf_put hok h0 h1 (q := emI) rfl (.inl rfl) hs) g (stars_new (own_nil encU _) hg)) ⟨rfl, rfl⟩
      | (exfalso; omega)
      | skip
    
  · rw [show erS n k s = s from if_neg hr]
    have hrn := rread_no p n s k hr
    obtain ⟨E, hE⟩ : ∃ E, rdE n k s = E := ⟨_, rfl⟩
    rw [hE] at hrn hr ⊢
    repeat' (first | (refine XL_id ?_; first | refine XL_nil ?_ | (refine XG_call ?_; refine XL_callE [0] hrn rfl rfl rfl (fun _ _ _ => trivial) ?_) | (refine XL_op tt_ok rfl rfl ?_; try (refine XL_dec_f (by omega) ?_))) | (refine X_id ?_; first | refine X_seq ?_ | (refine X_regionN (by repeat' (first | exact .nil | apply NL.cons)) ?_) | refine X_skip ?_ | refine X_ret ?_ | refine X_cond_f rfl ?_) | (refine Y_id ?_; refine Y_then ?_))
    all_goals first
      | exact Y_ret1 rfl rfl (fun g hg => hg) ⟨rfl, rfl⟩
      | (exfalso; omega)
      | skip
    
set_option maxHeartbeats 4000000 in
theorem rused_spec (p n : Nat) (s : List (List Int)) : Ctr Try.prog 20 [ptr p] (fun _ => True) [isRf p n s] (fun v L => ∃ A c, v = .slice A (usedF s).length c ∧ L = [own encN A (usedF s).length c (usedF s), isRf p n s]) := by
  refine Ctr.intro Try.func20 rfl rfl (by decide +kernel) fun F hpre => ?_
  refine X_openp 0 rfl (fun _ hh => hh) fun y hok => ?_
  have hl := hok.len
  have hc := hok.ok.cap
  have hss := hok.ok.len
  have hsl := rslots_spec p n y
  repeat' (first | (refine XL_id ?_; first | refine XL_nil ?_ | (refine XL_op tt_ok rfl rfl ?_)) | (refine X_id ?_; first | refine X_block (id := 0) (hold ?_) | refine X_seq ?_ | (refine X_regionN (by repeat' (first | exact .nil | apply NL.cons)) ?_)) | (refine Y_id ?_; refine Y_then ?_))
  intro _
  refine X_loopD4 [0] (fun (i : Nat) (B : Option Addr) (q k : Nat) => [(4, .int .i64 i), (3, .slice B k q)]) (fun i B q k => [own encN B k q (usedTo s i), rfB p n y, own (encIn Int) y.A n y.c y.qs, allI encU y.qs]) (fun i _ _ k => i ≤ n ∧ k = (usedTo s i).length) (fun i _ _ _ => n - i) 0 none 0 0 rfl ⟨Nat.zero_le _, rfl⟩ (by (repeat' (first | exact trivial | refine And.intro rfl ?_)); done) (fun h hs => stars_new (own_nil encN _) hs) ?_
  intro i B q k hi
  obtain ⟨hi, hk⟩ := hi
  have hul := usedTo_len s i
  by_cases hlt : i < n
  · have hm := hok.m (k := (i : Int)) (by omega) (by omega)
    by_cases he : Cof.get s (i : Int) = []
    · rw [he] at hm
      have hm0 : (Cof.get y.qs (i : Int)).m = 0 := hm
      have hu : usedTo s (i + 1) = usedTo s i := by rw [usedTo, if_pos he]
      repeat' (first | (refine XL_id ?_; first | refine XL_nil ?_ | (refine XG_load ?_; first | refine XL_load tt_ok 1 rfl rfl rfl rfl rfl rfl ?_ | refine XL_elo tt_ok 2 rfl rfl rfl (by omega) (by omega) rfl rfl rfl rfl ?_) | (refine XG_idx ?_; refine XL_idxo tt_ok 2 rfl rfl rfl rfl rfl rfl (by omega) (by omega) rfl ?_) | (refine XG_call ?_; first | (refine XL_op tt_ok rfl rfl ?_) | refine XL_fn hsl rfl rfl (fun g hg hL => blk_at 1 rfl hL) ?_) | (refine XL_op tt_ok rfl rfl ?_; try (first | refine XL_int (wrap_i64 (by omega) (by omega)) ?_ | refine XL_dec_t (by omega) ?_ | refine XL_dec_f (by omega) ?_))) | (refine X_id ?_; first | refine X_seq ?_ | (refine X_regionN (by repeat' (first | exact .nil | apply NL.cons)) ?_) | refine X_skip ?_ | refine X_block ?_ | refine X_cond_t rfl ?_ | refine X_cond_f rfl ?_) | (refine Y_id ?_; first | refine Y_then ?_ | refine Y_block_normal ?_))
      all_goals first
        | exact Y_again (i + 1, B, q, k) fun _ _ hf hs => ⟨⟨hlt, by show k = (usedTo s (i + 1)).length; rw [hu]; exact hk⟩, by show n - (i + 1) < n - i; omega, hf.sub (by (repeat' (first | exact trivial | refine And.intro rfl ?_)); done), hs.imp fun g hg => by (show stars [own encN B k q (usedTo s (i + 1)), rfB p n y, own (encIn Int) y.A n y.c y.qs, allI encU y.qs] g; rw [hu]; exact hg)⟩
        | (exfalso; omega)
        | skip
      
    · have hm0 : 0 < (Cof.get y.qs (i : Int)).m := by rw [hm]; exact List.length_pos_iff.2 he
      have hu : usedTo s (i + 1) = usedTo s i ++ [(i : Int)] := by rw [usedTo, if_neg he]
      repeat' (first | (refine XL_id ?_; first | refine XL_nil ?_ | (refine XG_load ?_; first | refine XL_load tt_ok 1 rfl rfl rfl rfl rfl rfl ?_ | refine XL_elo tt_ok 2 rfl rfl rfl (by omega) (by omega) rfl rfl rfl rfl ?_) | (refine XG_idx ?_; refine XL_idxo tt_ok 2 rfl rfl rfl rfl rfl rfl (by omega) (by omega) rfl ?_) | (refine XG_call ?_; first | (refine XL_op tt_ok rfl rfl ?_) | refine XL_fn hsl rfl rfl (fun g hg hL => blk_at 1 rfl hL) ?_ | (refine XL_app1 (E := encN) tt_ok 1 0 (i : Int) rfl rfl rfl rfl rfl rfl rfl rfl rfl rfl rfl (by show (_ : Nat) * 8 ≤ _; omega) (by omega) (fun _ _ => rfl) (fun A3 c3 => ?_))) | (refine XG_lit ?_; (refine XL_lit tt_ok rfl rfl rfl rfl rfl rfl rfl rfl rfl (fun _ => rfl) (fun b => ?_); refine XL_nB (by repeat' (first | exact .nil | apply NL.cons)) ?_)) | (refine XL_op tt_ok rfl rfl ?_; try (first | refine XL_int (wrap_i64 (by omega) (by omega)) ?_ | refine XL_dec_t (by omega) ?_))) | (refine X_id ?_; first | refine X_seq ?_ | (refine X_regionN (by repeat' (first | exact .nil | apply NL.cons)) ?_) | refine X_skip ?_ | refine X_block ?_ | refine X_cond_t rfl ?_) | (refine Y_id ?_; first | refine Y_then ?_ | refine Y_block_normal ?_))
      all_goals first
        | exact Y_again (i + 1, A3, c3, k + 1) fun _ _ hf hs => ⟨⟨hlt, by show k + 1 = (usedTo s (i + 1)).length; rw [hu, List.length_append, hk]; rfl⟩, by show n - (i + 1) < n - i; omega, hf.sub (by (repeat' (first | exact trivial | refine And.intro rfl ?_)); done), hs.imp fun g hg => by (show stars [own encN A3 (k + 1) c3 (usedTo s (i + 1)), rfB p n y, own (encIn Int) y.A n y.c y.qs, allI encU y.qs] g; rw [hu]; exact stars_only [1, 1, 1, 1] rfl g hg)⟩
        | (exfalso; omega)
        | skip
      
  · obtain rfl : i = n := by omega
    rw [show usedTo s i = usedF s by rw [← hss]]
    rw [show k = (usedF s).length by rw [hk, ← hss]]
    repeat' (first | (refine XL_id ?_; first | refine XL_nil ?_ | (refine XG_call ?_; refine XL_fn hsl rfl rfl (fun g hg hL => blk_at 1 rfl hL) ?_) | (refine XL_op tt_ok rfl rfl ?_; try (refine XL_dec_f (by omega) ?_))) | (refine X_id ?_; first | refine X_seq ?_ | (refine X_regionN (by repeat' (first | exact .nil | apply NL.cons)) ?_) | refine X_ret ?_ | refine X_exit ?_ | refine X_cond_f rfl ?_) | (refine Y_id ?_; first | refine Y_then ?_ | refine Y_then_exit ?_ | refine Y_block_hit ?_))
    all_goals first
      | exact Y_ret1 rfl rfl (fun g hg => stars_take [1, 0] rfl (stars_shut (A := isRf p i s) (fun g hs => ⟨y, hok, hs⟩) (stars_only [1, 1, 1, 0] rfl g hg))) ⟨_, _, rfl, rfl⟩
      | (exfalso; omega)
      | skip
    
end Go.Proofs.Ytmegelkbipgjbaa
