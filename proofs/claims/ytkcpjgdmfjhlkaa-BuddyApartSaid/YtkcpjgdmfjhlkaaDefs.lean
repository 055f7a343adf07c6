/- A Buddy in memory; its lists taken out and put back; put. -/
import Derived.Test.YtkcpjgdmfjhlkaaPb
import Derived.Test.YtkcpjgdmfjhlkaaGd
import Derived.Test.YtkcpjgdmfjhlkaaGn
set_option linter.unusedVariables false
namespace Go.Proofs.Ytkcpjgdmfjhlkaa
open Go.RowKit Go.Cof

abbrev ptr (p : Nat) : Value := .pointer (some ⟨p, 0, none⟩)
noncomputable def KI : Kk Try.prog 3 Int := Kk.int .i64 Try.underlying3
abbrev iVe (x : Int) : Value := .int .i64 x
abbrev bdL (n : Nat) (ss : List (In Int)) (mb : Nat) : List Value := [.bool true, iV n, slV (Cof.get ss 0), slV (Cof.get ss 1), slV (Cof.get ss 2), slV (Cof.get ss 3), slV (Cof.get ss 4), slV (Cof.get ss 5), slV (Cof.get ss 6), .map (some mb)]
structure Sq where
  ss : List (In Int)
  mb : Nat
abbrev bdM (p n : Nat) (tk : Int → Option Int) (y : Sq) : List HProp := [blk p (bdL n y.ss y.mb) 57, allI encN y.ss, isMp KI iVe y.mb tk]
structure Sq.Ok (y : Sq) (fs : List (List Int)) : Prop where
  len : y.ss.length = 7
  eq : y.ss.map In.xs = fs
  ml : ∀ j : Nat, j < 7 → (Cof.get y.ss (j : Int)).m = (Cof.get y.ss (j : Int)).xs.length
  fit : ∀ j : Nat, j < 7 → (Cof.get y.ss (j : Int)).m ≤ 4096
/-- A Buddy: its seven lists, and which blocks are taken. -/
def isBd (p n : Nat) (fs : List (List Int)) (tk : Int → Option Int) : HProp := fun h => ∃ y : Sq, y.Ok fs ∧ stars (bdM p n tk y) h
theorem isBd_mk {p n : Nat} {fs : List (List Int)} {tk : Int → Option Int} {y : Sq} (h : y.Ok fs) : ∀ g, stars (bdM p n tk y) g → isBd p n fs tk g := fun g hs => ⟨y, h, hs⟩
theorem bd_cell {n : Nat} {ss : List (In Int)} {mb k : Nat} (hk : k < 7) : (bdL n ss mb)[2 + k]? = some (slV (Cof.get ss (k : Int))) := by
  match k, hk with
  | 0, _ => rfl
  | 1, _ => rfl
  | 2, _ => rfl
  | 3, _ => rfl
  | 4, _ => rfl
  | 5, _ => rfl
  | 6, _ => rfl
theorem bd_set {n : Nat} {ss : List (In Int)} {mb k : Nat} (hl : ss.length = 7) (hk : k < 7) (q : In Int) : (bdL n ss mb).set (2 + k) (slV q) = bdL n (ss.set k q) mb := by
  match ss, hl with
  | [a0, a1, a2, a3, a4, a5, a6], _ =>
    match k, hk with
    | 0, _ => rfl
    | 1, _ => rfl
    | 2, _ => rfl
    | 3, _ => rfl
    | 4, _ => rfl
    | 5, _ => rfl
    | 6, _ => rfl
theorem bd_off {k : Nat} {i : Int} (h : i = k) : 0 + 2 + i.toNat * 1 = 2 + k := by subst h; simp
theorem bd_len {n : Nat} {ss : List (In Int)} {mb k o : Nat} (ho : o = 2 + k) (hk : k < 7) : o < (bdL n ss mb).length := by show o < 10; omega
theorem bd_at {n : Nat} {ss : List (In Int)} {mb k o : Nat} (ho : o = 2 + k) (hk : k < 7) : (bdL n ss mb)[o]? = some (slV (Cof.get ss (k : Int))) := by rw [ho]; exact bd_cell hk
theorem bd_addr {p k : Nat} {i : Int} (h : i = k) : (⟨p, 0 + 2 + i.toNat * 1, none⟩ : Addr) = ⟨p, 2 + k, none⟩ := by
  subst h
  simp
theorem Sq.Ok.get {y : Sq} {fs : List (List Int)} (h : y.Ok fs) {k : Nat} (hk : k < 7) : (Cof.get y.ss (k : Int)).xs = Cof.get fs (k : Int) := by
  rw [← h.eq, get_map In.xs (by rw [h.len]; exact hk)]
theorem Sq.Ok.set {y : Sq} {fs : List (List Int)} (h : y.Ok fs) {k : Nat} (hk : k < 7) {q : In Int} (hm : q.m = q.xs.length) (hq : q.m ≤ 4096) : (Sq.mk (y.ss.set k q) y.mb).Ok (fs.set k q.xs) := by
  refine ⟨by rw [List.length_set]; exact h.len, by rw [List.map_set, h.eq], fun j hj => ?_, fun j hj => ?_⟩
  · show (Cof.get (y.ss.set k q) (j : Int)).m = (Cof.get (y.ss.set k q) (j : Int)).xs.length
    rw [get_set (by rw [h.len]; exact hk)]
    split
    · exact hm
    · exact h.ml j hj
  show (Cof.get (y.ss.set k q) (j : Int)).m ≤ 4096
  rw [get_set (by rw [h.len]; exact hk)]
  split
  · exact hq
  · exact h.fit j hj
theorem Sq.Ok.mlen {y : Sq} {fs : List (List Int)} (h : y.Ok fs) {k : Nat} (hk : k < 7) : (Cof.get y.ss (k : Int)).m = (Cof.get fs (k : Int)).length := by rw [h.ml k hk, h.get hk]
theorem KI_ok {x : Int} (h1 : -9223372036854775808 ≤ x) (h2 : x ≤ 9223372036854775807) : KI.ok x := ⟨h1, h2⟩
/-- One is taken out of a list, wherever it lies. -/
theorem deleteA_spec (A : Option Addr) (m c : Nat) (xs : List Int) (i : Nat) (hm : m ≤ 100000) (hi : i < m) :
    Ctr Try.prog 28 [.slice A m c, iV i, iV ((i : Int) + 1)] (fun _ => True) [own encN A m c xs] (fun v L => v = .slice A (m - 1) c ∧ L = [own encN A (m - 1) c (xs.eraseIdx i)]) := by
  refine ⟨(deleteI_spec 0 1 1 [0] 0 (by decide) (by decide)).1, fun F w hp hs => ?_⟩
  obtain ⟨g, _, _, hA⟩ := hs.at (k := 0) rfl
  obtain ⟨q, rfl⟩ := own_some hA (by omega)
  exact (deleteI_spec q m c xs i hm hi).2 F w hp hs
/-- A list taken out of its Buddy. -/
theorem bd_out {p n : Nat} {tk : Int → Option Int} {y : Sq} {fs : List (List Int)} (h : y.Ok fs) {k : Nat} (hk : k < 7) {M : List HProp} {g : Hp} (hs : stars (allI encN y.ss :: M) g) :
    stars (own encN (Cof.get y.ss (k : Int)).A (Cof.get y.ss (k : Int)).m (Cof.get y.ss (k : Int)).c (Cof.get fs (k : Int)) :: allI encN (y.ss.eraseIdx k) :: M) g := by
  have h1 := allI_out (E := encN) (i := k) (by rw [h.len]; exact hk) hs
  unfold ownI at h1
  rw [h.get hk] at h1
  exact h1
theorem bd_in {y : Sq} {fs : List (List Int)} (h : y.Ok fs) {k : Nat} (hk : k < 7) (q : In Int) {M : List HProp} {g : Hp} (hs : stars (own encN q.A q.m q.c q.xs :: allI encN (y.ss.eraseIdx k) :: M) g) :
    stars (allI encN (y.ss.set k q) :: M) g := allI_in (E := encN) (i := k) (by rw [h.len]; exact hk) hs
theorem bd_back {p n : Nat} {y : Sq} {fs : List (List Int)} (h : y.Ok fs) {k : Nat} (hk : k < 7) {q : In Int} {o : Nat} (ho : o = 2 + k) {e : TypeId} {M : List HProp} {g : Hp} (hs : stars (own encN q.A q.m q.c q.xs :: allI encN (y.ss.eraseIdx k) :: blk p ((bdL n y.ss y.mb).set o (slV q)) e :: M) g) :
    stars (blk p (bdL n (y.ss.set k q) y.mb) e :: allI encN (y.ss.set k q) :: M) g := by
  rw [ho, bd_set h.len hk] at hs
  exact stars_swap (bd_in h hk q hs)
theorem none_spec (p n : Nat) (ss : List (In Int)) (mb : Nat) : FnC Try.prog 27 [ptr p] (fun h => blk p (bdL n ss mb) 57 h) (.bool false) := by
  refine Ctr.intro Try.func27 rfl rfl (by decide +kernel) fun F hpre => ?_
  have hb : blk p (bdL n ss mb) 57 F.heap := hpre
  repeat' (first | (refine XL_id ?_; first | refine XL_nil ?_ | refine XL_guard_yes rfl rfl rfl ?_ | (refine XG_load ?_; refine XL_loadF tt_ok rfl (by assumption) rfl rfl rfl rfl ?_) | (refine XL_op tt_ok rfl rfl ?_)) | (refine X_id ?_; first | refine X_seq ?_ | (refine X_regionN (by repeat' (exact .nil)) ?_) | refine X_ret ?_) | (refine Y_id ?_; refine Y_then ?_))
  all_goals first
    | exact Y_fn1 rfl rfl rfl
    | skip
  
set_option maxHeartbeats 4000000 in
theorem put_spec (p n : Nat) (y : Sq) (fs : List (List Int)) (h : y.Ok fs) (v : Int) (k : Nat) (hk : k < 7) (hm : (Cof.get y.ss (k : Int)).m < 4096) (hs : (Cof.get fs (k : Int)).Pairwise (· < ·)) :
    Ctr Try.prog 29 [ptr p, iV v, iV k] (fun _ => True) [blk p (bdL n y.ss y.mb) 57, allI encN y.ss] (fun v2 L => ∃ z : Sq, z.mb = y.mb ∧ z.Ok (fs.set k (insS v (Cof.get fs (k : Int)))) ∧ v2 = .tuple #[] ∧ L = [blk p (bdL n z.ss z.mb) 57, allI encN z.ss]) := by
  refine Ctr.intro Try.func29 rfl rfl (by decide +kernel) fun F hpre => ?_
  have hrk := rk_le v (Cof.get fs (k : Int))
  refine X_mem (fun _ hh => stars_take [1] rfl (bd_out (p := p) (n := n) (tk := fun _ => none) h hk (stars_take [1] rfl hh))) ?_
  refine X_fact 1 rfl (fun _ o => own_len o) fun hlen => ?_
  obtain ⟨hlm, hc1, hc2⟩ := hlen
  have hbs := bsearch_spec (Cof.get y.ss (k : Int)).A (Cof.get y.ss (k : Int)).m (Cof.get y.ss (k : Int)).c (Cof.get fs (k : Int)) v (by omega) hs
  obtain ⟨B, hB⟩ : ∃ B, decide (v ∈ Cof.get fs (k : Int)) = B := ⟨_, rfl⟩
  rw [hB] at hbs
  repeat' (first | (refine XL_id ?_; first | refine XL_nil ?_ | (refine XG_load ?_; refine XL_loadI tt_ok 2 rfl rfl rfl rfl rfl (bd_at (k := k) (bd_off rfl) hk) rfl ?_) | (refine XG_idx ?_; refine XL_idxal tt_ok rfl rfl rfl rfl rfl (by omega) (by omega) rfl ?_) | (refine XG_store ?_; refine XL_storeI tt_ok 3 rfl rfl rfl rfl rfl rfl rfl (bd_len (k := k) (bd_off rfl) hk) ?_) | (refine XG_call ?_; first | (refine XL_callK [2] (insertI_spec _ _ _ (Cof.get fs (k : Int)) (rkI v (Cof.get fs (k : Int))) _ v (by omega) (by omega)) rfl rfl (fun _ => rfl) (fun g hg hL => blk_at 0 rfl hL) (fun u L hv => ?_); obtain ⟨A2, c2, rfl, rfl⟩ := hv) | refine XL_fn hbs rfl rfl (fun g hg hL => rd_at 1 rfl hL) ?_) | (refine XG_lit ?_; (refine XL_lit tt_ok rfl rfl rfl rfl rfl rfl rfl rfl rfl (fun _ => rfl) (fun b => ?_); refine XL_nB (by repeat' (first | exact .nil | apply NL.cons)) ?_)) | (refine XL_op tt_ok rfl rfl ?_)) | (refine XD_id ?_; first | refine XD_nil ?_ | (refine XD_id ?_; (first | (refine XD_uL rfl ?_; refine XD_s rfl rfl rfl (XV_loadI tt_ok (blk_at 0 rfl hM) rfl rfl rfl rfl (bd_at (k := k) (bd_off rfl) hk)) rfl ?_) | (refine XD_uI rfl ?_; refine XD_s rfl rfl rfl (XV_idxal tt_ok rfl rfl rfl rfl rfl (by omega) (by omega)) rfl ?_) | (refine XD_u rfl rfl ?_; refine XD_s rfl rfl rfl (XV_op tt_ok rfl) rfl ?_))) | refine XD_m rfl rfl ?_ | (refine XD_thaw thaw ?_; refine XD_l rfl rfl ?_)) | (refine X_id ?_; first | (refine X_drawS (id := 1) [0, 1, 2, 3, 4, 5, 6, 7, 8, 9, 12, 13, 10, 11, 14, 15] (fun | 10 => .m | 11 => .m | 15 => .l | _ => .s) 8 (by (repeat apply Split.blk); apply Split.keep; (repeat apply Split.blk); apply Split.keep; repeat' (first | exact Split.nil | apply Split.blk)) mixed (by decide +kernel) ?_; intro G hFG hM thaw; show XD _ _ _ _ _ _ [0, 1, 2, 3, 4, 5, 6, 7, 8, 9, 12, 13, 10, 11, 14, 15] _ _ _) | refine X_seq ?_ | (refine X_regionN (by repeat' (first | exact .nil | apply NL.cons)) ?_)) | (refine Y_id ?_; first | refine Y_then ?_ | refine Y_m ?_ | refine Y_l ?_))
  all_goals first
    | refine Y_end0 rfl (fun g hg => ?_) ⟨⟨y.ss.set k ⟨A2, (Cof.get y.ss (k : Int)).m + 1, c2, insS v (Cof.get fs (k : Int))⟩, y.mb⟩, rfl, h.set hk (by show _ + 1 = _; rw [ins_len, h.mlen hk]) (by show _ + 1 ≤ 4096; omega), rfl, rfl⟩
  exact bd_back h hk (q := ⟨A2, (Cof.get y.ss (k : Int)).m + 1, c2, insS v (Cof.get fs (k : Int))⟩) (bd_off (i := (k : Int)) rfl) (stars_only [0, 1, 1] rfl g hg)
end Go.Proofs.Ytkcpjgdmfjhlkaa
