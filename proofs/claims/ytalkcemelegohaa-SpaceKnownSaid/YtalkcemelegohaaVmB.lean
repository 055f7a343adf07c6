/- Walk of changed. Walks of Put, Cut, Protect. Walks of Cut and Protect. Walks of Find, Gap, Pages, Spans. -/
import Derived.Test.YtalkcemelegohaaVmA
import Derived.Test.YtalkcemelegohaaSlS
import Derived.KernelRfl
set_option linter.unusedVariables false
set_option maxRecDepth 100000
namespace Go.Proofs.Ytalkcemelegohaa.Vm
open Go.RowKit Go.Cof

theorem headF_yes {l : List Rg} {from_ : Int} {k : Nat} (hk : firstN l from_ = k) (h1 : k < l.length) (h2 : (Cof.get (l.drop k) 0).p < from_) : headF l from_ = [] ++ l.take k ++ [⟨(Cof.get (l.drop k) 0).p, from_ - (Cof.get (l.drop k) 0).p, (Cof.get (l.drop k) 0).m⟩] := by
  have e : Cof.get (l.drop k) 0 = Cof.get l (k : Int) := by unfold Cof.get; simp [List.getD_eq_getElem?_getD]
  rw [e] at h2 ⊢
  unfold headF
  simp only [hk]
  rw [if_pos ⟨h1, h2⟩]
  rfl
theorem headF_no {l : List Rg} {from_ : Int} {k : Nat} (hk : firstN l from_ = k) (h : ¬ k < l.length ∨ ¬ (Cof.get (l.drop k) 0).p < from_) : headF l from_ = [] ++ l.take k := by
  have e : Cof.get (l.drop k) 0 = Cof.get l (k : Int) := by unfold Cof.get; simp [List.getD_eq_getElem?_getD]
  rw [e] at h
  unfold headF
  simp only [hk]
  rw [if_neg fun hc => h.elim (fun h => h hc.1) fun h => h hc.2]
  rfl
set_option maxRecDepth 100000 in
set_option maxHeartbeats 4000000 in
theorem changed_spec (A B : Option Addr) (m c m' c' : Nat) (l ins : List Rg) (from_ to : Int) (hm : m ≤ 1024) (hmc : m ≤ c) (hm' : m' ≤ 1024) (hl : ∀ r ∈ l, r.Ok) (hi' : ∀ r ∈ ins, r.Ok) (h1 : 1 ≤ from_) (h2 : from_ ≤ 1048576) (h3 : from_ ≤ to) (h4 : to ≤ 1048576) :
    Ctr Try.prog 70 [.slice A m c, .int .i64 from_, .int .i64 to, .slice B m' c'] (fun h => rdS encRg h A m l ∧ rdS encRg h B m' ins) [] (fun v L => ∃ o : Ow Rg, o.xs = (changedF l from_ to ins).1 ∧ o.m = o.xs.length ∧ v = .tuple #[o.v, .int .i64 (changedF l from_ to ins).2] ∧ L = [o.own encRg]) := by
  refine Ctr.intro Try.func70 rfl rfl (by decide +kernel) fun F hpre => ?_
  have r1 : rdS encRg F.heap A m l := hpre.1
  have r2 : rdS encRg F.heap B m' ins := hpre.2
  have hlen := r1.1
  have hlen2 := r2.1
  have hk := firstN_le l from_
  generalize hkk : firstN l from_ = k at hk
  have r3 := r1.sub (l := 0) (k := k) (cc := k) (Nat.zero_le _) (by omega) (by omega)
  rw [sbA_zero, Nat.sub_zero, List.drop_zero] at r3
  have ok0 : k < l.length → (Cof.get (l.drop k) 0).Ok := fun h => hl _ (List.mem_of_mem_drop (get_mem (Int.le_refl 0) (by rw [List.length_drop]; omega)))
  have r4 := r1.sub (l := k) (k := m) (cc := c) (by omega) (Nat.le_refl _) hmc
  rw [List.take_of_length_le (by omega)] at r4
  have hf := first_spec A m c l from_ (by omega) hl
  rw [hkk] at hf
  have b0 : 0 ≤ (Cof.get (l.drop k) 0).p ∧ (Cof.get (l.drop k) 0).p ≤ 1048576 := by
    by_cases h : k < l.length
    · have := (ok0 h).p; have := (ok0 h).n; have := (ok0 h).e; omega
    · rw [List.drop_of_length_le (by omega)]; exact ⟨by decide, by decide⟩
  refine X_mem (fun _ hs => stars_new (own_nil encRg _) hs) ?_
  repeat' (first | (refine XL_id ?_; first | refine XL_nil ?_ | refine XL_guard_yes rfl rfl rfl ?_ | refine XL_guard_no rfl rfl rfl rfl rfl ?_ | (refine XG_load ?_; refine XL_elf tt_ok rfl (by assumption) rfl (by omega) (by omega) rfl rfl rfl rfl ?_) | (refine XG_idx ?_; refine XL_idx tt_ok rfl rfl rfl rfl rfl (by assumption) (by omega) (by omega) rfl ?_) | (refine XG_call ?_; first | (refine XL_op tt_ok rfl rfl ?_) | refine XL_fn hf rfl rfl (fun g hg _ => r1.le hg) ?_ | (refine XL_appF tt_ok 0 rfl rfl r3 rfl rfl rfl rfl rfl rfl rfl (by show (_ : Nat) * 24 ≤ _; omega) (by omega) (fun _ _ => rfl) (fun A1 c1 => ?_)) | (refine XL_app1 tt_ok 1 0 (⟨(Cof.get (l.drop k) 0).p, from_ - (Cof.get (l.drop k) 0).p, (Cof.get (l.drop k) 0).m⟩ : Rg) rfl rfl rfl rfl rfl rfl rfl rfl rfl rfl rfl (by show (_ : Nat) * 24 ≤ _; omega) (by omega) (fun _ _ => rfl) (fun A2 c2 => ?_))) | (refine XG_slice ?_; first | refine XL_slice0 tt_ok rfl rfl rfl (.himx (by omega) (by omega) (by omega)) rfl rfl rfl rfl ?_ | refine XL_slice tt_ok rfl rfl rfl rfl (.lo (by omega) (by omega)) rfl rfl rfl rfl ?_) | (refine XG_lit ?_; (refine XL_lit tt_ok rfl rfl rfl rfl rfl rfl rfl rfl rfl (fun _ => rfl) (fun b => ?_); refine XL_nB (by repeat' (first | exact .nil | apply NL.cons)) ?_)) | (refine XL_op tt_ok rfl rfl ?_; try (refine XL_dec (fun _ => ?_) (fun _ => ?_)))) | (refine XD_id ?_; first | (refine XD_thaw thaw ?_; refine XD_nil ?_) | (refine XD_id ?_; (first | (refine XD_uL rfl ?_; refine XD_s rfl rfl rfl (XV_elf tt_ok rfl (rdS.le (by assumption) hFG) rfl (by omega) (by omega) rfl rfl rfl) rfl ?_) | (refine XD_uI rfl ?_; refine XD_s rfl rfl rfl (XV_idx tt_ok rfl rfl rfl rfl rfl (rdS.le (by assumption) hFG) (by omega) (by omega)) rfl ?_) | (refine XD_u rfl rfl ?_; first | refine XD_s rfl rfl rfl (XV_op tt_ok rfl) rfl ?_ | refine XD_s rfl rfl rfl (XV_build tt_ok rfl rfl rfl rfl rfl rfl) rfl ?_)); try (refine XD_int (wrap_i64 (by omega) (by omega)) ?_)) | refine XD_m rfl rfl ?_) | (refine X_id ?_; first | refine X_cutD (c := .seq (.region 6 _ _) _) [1, 2, 3, 11, 13] (fun (j : Ow Rg) => [(10, j.v)]) (fun j => [j.own encRg]) (fun j => j.xs = headF l from_ ∧ j.m = j.xs.length) rfl (X_seq ?_) (fun j hj => ?_) | (refine X_drawS (id := 7) [0, 1, 2, 3, 4, 5, 6, 7, 8, 9, 10, 11, 12, 13, 14, 15, 16, 17, 18] (fun | 16 => .m | 17 => .m | _ => .s) 8 (by repeat' (first | exact Split.nil | apply Split.keep)) mixed (by decide +kernel) ?_; intro G hFG hM thaw; show XD _ _ _ _ _ _ [0, 1, 2, 3, 4, 5, 6, 7, 8, 9, 10, 11, 12, 13, 14, 15, 16, 17, 18] _ _ _) | refine X_seq ?_ | (refine X_regionN (by repeat' (first | exact .nil | apply NL.cons)) ?_) | refine X_skip ?_ | refine X_block ?_ | refine X_cond_t rfl ?_ | refine X_cond_f rfl ?_) | (refine Y_id ?_; first | refine Y_then ?_ | refine Y_m ?_))
  · exact Y_again ⟨A2, _, c2, _⟩ fun _ _ hf hs => ⟨⟨(headF_yes hkk (by omega) (by assumption)).symm, by simp; omega⟩, hf.sub (by (repeat' (first | exact trivial | refine And.intro rfl ?_)); done), hs.imp fun h hs => stars_only [1] rfl h hs⟩
  · exact Y_again ⟨A1, _, c1, _⟩ fun _ _ hf hs => ⟨⟨(headF_no hkk (.inr (by assumption))).symm, by simp; omega⟩, hf.sub (by (repeat' (first | exact trivial | refine And.intro rfl ?_)); done), hs⟩
  · exact Y_again ⟨A1, _, c1, _⟩ fun _ _ hf hs => ⟨⟨(headF_no hkk (.inl (by omega))).symm, by simp; omega⟩, hf.sub (by (repeat' (first | exact trivial | refine And.intro rfl ?_)); done), hs⟩
  obtain ⟨hj1, hj2⟩ := hj
  have okh := headF_ok (from_ := from_) hl
  have lnh := headF_length l from_
  refine X_loopD2 [1, 2, 11, 13, 60, 61] (fun (i : Nat) (o : Ow Rg) => [(62, .int .i64 i), (10, o.v)]) (fun i o => [o.own encRg]) (fun i o => i ≤ m' ∧ o.xs = (ins.take i).foldl addR (headF l from_) ∧ o.m = o.xs.length) (fun i _ => m' - i) 0 j rfl ⟨Nat.zero_le _, hj1, hj2⟩ (by (repeat' (first | exact trivial | refine And.intro rfl ?_)); done) (fun _ h => h) ?_
  intro i o hi
  obtain ⟨hi, ho, hom⟩ := hi
  have okx : ∀ x ∈ o.xs, x.Ok := by rw [ho]; exact fold_ok okh fun x hx => hi' x (List.mem_of_mem_take hx)
  have lnx : o.m ≤ 2100 := by
    have := fold_length (ins.take i) (headF l from_)
    rw [← ho, List.length_take] at this
    omega
  by_cases hlt : i < m'
  · have okr : (Cof.get ins i).Ok := hi' _ (get_mem (by omega) (by omega))
    repeat' (first | (refine XL_id ?_; first | refine XL_nil ?_ | (refine XG_load ?_; first | refine XL_loadW tt_ok 0 rfl rfl rfl rfl rfl rfl ?_ | refine XL_elW tt_ok rfl (by assumption) rfl (by omega) (by omega) rfl rfl rfl rfl ?_) | (refine XG_idx ?_; refine XL_idx tt_ok rfl rfl rfl rfl rfl (by assumption) (by omega) (by omega) rfl ?_) | (refine XG_call ?_; (refine XL_callK [1] (add_ok _ _ _ _ _ (by omega) okx okr) rfl rfl (fun _ => rfl) (fun _ _ _ => trivial) (fun u L hv => ?_); obtain ⟨o', ho1, ho2, rfl, rfl⟩ := hv)) | (refine XG_alloc ?_; (refine XL_alloc tt_ok rfl rfl (fun _ => rfl) (fun b => ?_); refine XL_nB (by repeat' (first | exact .nil | apply NL.cons)) ?_)) | (refine XG_store ?_; (refine XL_storeW tt_ok 0 rfl rfl rfl rfl rfl rfl rfl ?_; refine XL_nK 0 rfl (by repeat' (first | exact .nil | apply NL.cons)) ?_)) | (refine XL_op tt_ok rfl rfl ?_; try (first | refine XL_int (wrap_i64 (by omega) (by omega)) ?_ | refine XL_dec_t (by omega) ?_))) | (refine X_id ?_; first | refine X_seq ?_ | (refine X_regionN (by repeat' (first | exact .nil | apply NL.cons)) ?_) | refine X_skip ?_ | refine X_block ?_ | refine X_cond_t rfl ?_) | (refine Y_id ?_; first | refine Y_then ?_ | refine Y_block_normal ?_))
    exact Y_again (i + 1, o') fun _ _ hf hs => ⟨⟨by show i + 1 ≤ m'; omega, by rw [ho1, ho, take_fold _ _ _ _ (by omega)], ho2⟩, by show m' - (i + 1) < m' - i; omega, hf.sub (by (repeat' (first | exact trivial | refine And.intro rfl ?_)); done), hs.imp fun h hs => stars_only [0] rfl h hs⟩
  obtain rfl : i = m' := by omega
  rw [List.take_of_length_le (by omega)] at ho
  repeat' (first | (refine XL_id ?_; first | refine XL_nil ?_ | (refine XG_call ?_; (refine XL_op tt_ok rfl rfl ?_)) | (refine XL_op tt_ok rfl rfl ?_; try (refine XL_dec_f (by omega) ?_))) | (refine X_id ?_; first | (refine X_loopD3 [1, 2, 70, 71] (fun (i : Nat) (o : Ow Rg) (z : Int) => [(72, .int .i64 i), (10, o.v), (11, .int .i64 z)]) (fun i o z => [o.own encRg]) (fun i o z => i ≤ m - k ∧ (o.xs, z) = ((l.drop k).take i).foldl (stepR from_ to) (ins.foldl addR (headF l from_), 0) ∧ o.m = o.xs.length) (fun i _ _ => m - k - i) 0 o 0 rfl ⟨Nat.zero_le _, by rw [ho]; rfl, hom⟩ (by (repeat' (first | exact trivial | refine And.intro rfl ?_)); done) (fun _ h => h) ?_) | refine X_seq ?_ | (refine X_regionN (by repeat' (first | exact .nil | apply NL.cons)) ?_) | refine X_exit ?_ | refine X_block ?_ | refine X_cond_f rfl ?_) | (refine Y_id ?_; first | refine Y_then ?_ | refine Y_then_exit ?_ | refine Y_block_hit ?_))
  intro i o z hi
  obtain ⟨hi, hoz, hom⟩ := hi
  have ho : o.xs = (((l.drop k).take i).foldl (stepR from_ to) (ins.foldl addR (headF l from_), 0)).1 := by rw [← hoz]
  have hz : z = (((l.drop k).take i).foldl (stepR from_ to) (ins.foldl addR (headF l from_), 0)).2 := by rw [← hoz]
  have okx : ∀ x ∈ o.xs, x.Ok := by rw [ho]; exact steps_ok (by omega) (fold_ok okh hi') fun x hx => hl x (List.mem_of_mem_drop (List.mem_of_mem_take hx))
  have lnx : o.m ≤ 4200 := by
    have h1 := fold_length ins (headF l from_)
    have h2 := steps_length from_ to ((l.drop k).take i) (ins.foldl addR (headF l from_), 0)
    rw [← ho, List.length_take] at h2
    simp only at h2
    omega
  have bz : 0 ≤ z ∧ z ≤ 1024 * 1048576 := by
    have h2 := steps_num from_ to (by omega) (by omega) ((l.drop k).take i) (ins.foldl addR (headF l from_), 0)
    rw [← hz, List.length_take] at h2
    simp only at h2
    omega
  by_cases hlt : i < m - k
  · have okr : (Cof.get (l.drop k) i).Ok := hl _ (List.mem_of_mem_drop (get_mem (by omega) (by rw [List.length_drop]; omega)))
    have q1 := okr.p; have q2 := okr.n; have q3 := okr.e
    have ee : (Cof.get (l.drop k) i).end = (Cof.get (l.drop k) i).p + (Cof.get (l.drop k) i).n := rfl
    repeat' (first | (refine XL_id ?_; first | refine XL_nil ?_ | (refine XG_load ?_; first | refine XL_loadW tt_ok 1 rfl rfl rfl rfl rfl rfl ?_ | refine XL_load tt_ok 1 rfl rfl rfl rfl rfl rfl ?_ | refine XL_elW tt_ok rfl (by assumption) rfl (by omega) (by omega) rfl rfl rfl rfl ?_) | (refine XG_idx ?_; refine XL_idx tt_ok rfl rfl rfl rfl rfl (by assumption) (by omega) (by omega) rfl ?_) | (refine XG_call ?_; first | (refine XL_op tt_ok rfl rfl ?_) | refine XL_fn (end_ok _ okr) rfl rfl (fun _ _ _ => trivial) ?_ | (refine XL_callK [0] (add_ok _ _ _ _ _ (by omega) okx (tail_ok okr (by omega) (by omega))) rfl rfl (fun _ => rfl) (fun _ _ _ => trivial) (fun u L hv => ?_); obtain ⟨o', ho1, ho2, rfl, rfl⟩ := hv)) | (refine XG_alloc ?_; (refine XL_alloc tt_ok rfl rfl (fun _ => rfl) (fun b => ?_); refine XL_nB (by repeat' (first | exact .nil | apply NL.cons)) ?_)) | (refine XG_store ?_; (refine XL_storeW tt_ok 0 rfl rfl rfl rfl rfl rfl rfl ?_; refine XL_nK 0 rfl (by repeat' (first | exact .nil | apply NL.cons)) ?_)) | (refine XL_op tt_ok rfl rfl ?_; try (first | refine XL_int (wrap_i64 (by omega) (by omega)) ?_ | refine XL_dec_t (by omega) ?_ | refine XL_dec (fun _ => ?_) (fun _ => ?_)))) | (refine XD_id ?_; first | (refine XD_thaw thaw ?_; refine XD_nil ?_) | (refine XD_id ?_; (first | (refine XD_uL rfl ?_; first | refine XD_s rfl rfl rfl (XV_loadW tt_ok rfl (blk_at 0 rfl hM) rfl rfl rfl) rfl ?_ | refine XD_s rfl rfl rfl (XV_load tt_ok rfl (blk_at 0 rfl hM) rfl rfl rfl) rfl ?_) | (refine XD_u rfl rfl ?_; first | refine XD_s rfl rfl rfl (XV_op tt_ok rfl) rfl ?_ | refine XD_s rfl rfl rfl (XV_build tt_ok rfl rfl rfl rfl rfl rfl) rfl ?_)); try (refine XD_int (wrap_i64 (by omega) (by omega)) ?_)) | refine XD_m rfl rfl ?_) | (refine X_id ?_; first | (refine X_drawS (id := 16) [0, 1, 3, 5, 6, 7, 8, 2, 4, 9, 10, 11, 12] (fun | 2 => .m | _ => .s) 8 (by repeat' (first | exact Split.nil | apply Split.blk | apply Split.keep)) mixed (by decide +kernel) ?_; intro G hFG hM thaw; show XD _ _ _ _ _ _ [0, 1, 3, 5, 6, 7, 8, 2, 4, 9, 10, 11, 12] _ _ _) | (refine X_drawS (id := 19) [0, 1, 2, 4, 6, 7, 3, 5, 8, 9, 10] (fun | 3 => .m | 9 => .m | _ => .s) 8 (by repeat' (first | exact Split.nil | apply Split.blk | apply Split.keep)) mixed (by decide +kernel) ?_; intro G hFG hM thaw; show XD _ _ _ _ _ _ [0, 1, 2, 4, 6, 7, 3, 5, 8, 9, 10] _ _ _) | refine X_seq ?_ | (refine X_regionN (by repeat' (first | exact .nil | apply NL.cons)) ?_) | refine X_skip ?_ | refine X_block ?_ | refine X_cond_t rfl ?_ | refine X_cond_f rfl ?_) | (refine Y_id ?_; first | refine Y_then ?_ | refine Y_block_normal ?_ | refine Y_m ?_))
    · exact Y_again (i + 1, o', z + gotR (Cof.get (l.drop k) i) from_ to) fun _ _ hf hs => ⟨⟨by show i + 1 ≤ m - k; omega, by rw [take_fold _ _ _ _ (by rw [List.length_drop]; omega), ← hoz]; refine Prod.ext ?_ ?_; exact ho1.trans (if_pos (by assumption)).symm; exact rfl, ho2⟩, by show m - k - (i + 1) < m - k - i; omega, hf.sub (by (repeat' (first | exact trivial | refine And.intro rfl ?_)); done), hs.imp fun h hs => stars_only [0] rfl h hs⟩
    · exact Y_again (i + 1, o, z + gotR (Cof.get (l.drop k) i) from_ to) fun _ _ hf hs => ⟨⟨by show i + 1 ≤ m - k; omega, by rw [take_fold _ _ _ _ (by rw [List.length_drop]; omega), ← hoz]; refine Prod.ext ?_ ?_; exact (if_neg (by assumption)).symm; exact rfl, hom⟩, by show m - k - (i + 1) < m - k - i; omega, hf.sub (by (repeat' (first | exact trivial | refine And.intro rfl ?_)); done), hs.imp fun h hs => stars_only [0] rfl h hs⟩
  obtain rfl : i = m - k := by omega
  rw [List.take_of_length_le (by rw [List.length_drop]; omega), ← hkk] at ho hz
  repeat' (first | (refine XL_id ?_; first | refine XL_nil ?_ | (refine XL_op tt_ok rfl rfl ?_; try (refine XL_dec_f (by omega) ?_))) | (refine X_id ?_; first | refine X_seq ?_ | (refine X_regionN (by repeat' (first | exact .nil | apply NL.cons)) ?_) | refine X_ret ?_ | refine X_exit ?_ | refine X_cond_f rfl ?_) | (refine Y_id ?_; first | refine Y_then ?_ | refine Y_then_exit ?_ | refine Y_block_hit ?_))
  exact Y_ret2 rfl rfl rfl (stars_only [0] rfl) ⟨o, ho, hom, by rw [hz]; rfl, rfl⟩
end Go.Proofs.Ytalkcemelegohaa.Vm
set_option linter.unusedVariables false
set_option maxRecDepth 100000
namespace Go.Proofs.Ytalkcemelegohaa.Vm
open Go.RowKit Go.Cof

def fewP (xs : List Rg) : List Rg × Int := if 1024 < xs.length then ([], 3) else (xs, 0)
def putP (l : List Rg) (r : Rg) : List Rg × Int :=
  if checkE l ≠ 0 then ([], checkE l) else if pgs r.p r.n = false ∨ prm r.m = false then ([], 2) else
  if 0 < (changedF l r.p r.end [r]).2 then ([], 171) else fewP (changedF l r.p r.end [r]).1
def cutP (l : List Rg) (p n : Int) : List Rg × Int :=
  if checkE l ≠ 0 then ([], checkE l) else if pgs p n = false then ([], 2) else fewP (changedF l p (p + n) []).1
def protP (l : List Rg) (p n m : Int) : List Rg × Int :=
  if checkE l ≠ 0 then ([], checkE l) else if pgs p n = false ∨ prm m = false then ([], 2) else
  if (changedF l p (p + n) [⟨p, n, m⟩]).2 < n then ([], 170) else fewP (changedF l p (p + n) [⟨p, n, m⟩]).1
theorem checkE_good {l : List Rg} (h : checkE l = 0) : l.length ≤ 1024 ∧ ∀ r ∈ l, r.Ok := by
  unfold checkE at h
  split at h
  · cases h
  · split at h
    · rename_i h1 h2
      refine ⟨by omega, fun r hr => ?_⟩
      obtain ⟨i, hi, rfl⟩ := List.getElem_of_mem hr
      have := okAt_rg (List.all_eq_true.1 h2 i (List.mem_range.2 hi))
      unfold Cof.get at this
      rw [Int.toNat_natCast, List.getD_eq_getElem?_getD, List.getElem?_eq_getElem hi] at this
      exact this
    · cases h
theorem pgs_ok {p n m : Int} (h : pgs p n = true) (h2 : prm m = true) : (⟨p, n, m⟩ : Rg).Ok := by
  unfold pgs at h
  unfold prm at h2
  simp only [decide_eq_true_eq] at h h2
  exact ⟨h.1, h.2.2.1, by show p + n ≤ _; omega, h2⟩
theorem pgs_rng {p n : Int} (h : pgs p n = true) : 1 ≤ p ∧ 1 ≤ n ∧ p + n ≤ 1048576 := by
  unfold pgs at h
  simp only [decide_eq_true_eq] at h
  omega
theorem one_ok {r : Rg} (h : r.Ok) : ∀ x ∈ [r], x.Ok := fun x hx => by obtain rfl := List.mem_singleton.1 hx; exact h
theorem few_yes (A : Option Addr) (m c : Nat) (h : 1024 < m) (h2 : m ≤ 9223372036854775807) : FnC Try.prog 71 [.slice A m c] (fun _ => True) (.tuple #[.slice none 0 0, .int .i64 3]) := by
  have := few_spec A m c h2
  unfold fewV at this
  rwa [if_pos h] at this
theorem few_no (A : Option Addr) (m c : Nat) (h : 1024 ≥ m) : FnC Try.prog 71 [.slice A m c] (fun _ => True) (.tuple #[.slice A m c, .int .i64 0]) := by
  have := few_spec A m c (by omega)
  unfold fewV at this
  rwa [if_neg (by omega)] at this
theorem changedF_length {l ins : List Rg} (from_ to : Int) (h1 : l.length ≤ 1024) (h2 : ins.length ≤ 1024) : (changedF l from_ to ins).1.length ≤ 9000 := by
  have a1 := steps_length from_ to (l.drop (firstN l from_)) (ins.foldl addR (headF l from_), 0)
  have a2 := fold_length ins (headF l from_)
  have a3 := headF_length l from_
  have a4 := firstN_le l from_
  have e : (changedF l from_ to ins) = (l.drop (firstN l from_)).foldl (stepR from_ to) (ins.foldl addR (headF l from_), 0) := rfl
  rw [e]
  rw [List.length_drop] at a1
  simp only at a1
  omega
theorem fewP_yes {xs : List Rg} (h : 1024 < xs.length) : fewP xs = ([], 3) := if_pos h
theorem fewP_no {xs : List Rg} (h : 1024 ≥ xs.length) : fewP xs = (xs, 0) := if_neg (by omega)
theorem putP_1 {l : List Rg} {r : Rg} (h : ¬ checkE l = 0) : putP l r = ([], checkE l) := by unfold putP; rw [if_pos h]
theorem putP_2 {l : List Rg} {r : Rg} (h : ¬ ¬ checkE l = 0) (h1 : pgs r.p r.n = false) : putP l r = ([], 2) := by unfold putP; rw [if_neg h, if_pos (.inl h1)]
theorem putP_2' {l : List Rg} {r : Rg} (h : ¬ ¬ checkE l = 0) (h1 : prm r.m = false) : putP l r = ([], 2) := by unfold putP; rw [if_neg h, if_pos (.inr h1)]
theorem putP_3 {l : List Rg} {r : Rg} (h : ¬ ¬ checkE l = 0) (h1 : pgs r.p r.n = true) (h2 : prm r.m = true) (h3 : 0 < (changedF l r.p r.end [r]).2) : putP l r = ([], 171) := by unfold putP; rw [if_neg h, if_neg (by simp [h1, h2]), if_pos h3]
theorem putP_4 {l : List Rg} {r : Rg} (h : ¬ ¬ checkE l = 0) (h1 : pgs r.p r.n = true) (h2 : prm r.m = true) (h3 : ¬ 0 < (changedF l r.p r.end [r]).2) : putP l r = fewP (changedF l r.p r.end [r]).1 := by unfold putP; rw [if_neg h, if_neg (by simp [h1, h2]), if_neg h3]
theorem LRes.at {α : Type} {E : Enc α} {p q : List α × Int} {v : Value} {L : List HProp} (h : p = q) (hL : LRes E q.1 (.int .i64 q.2) v L) : LRes E p.1 (.int .i64 p.2) v L := h ▸ hL
theorem LRes.none (e : Int) : LRes encRg (([], e) : List Rg × Int).1 (.int .i64 (([], e) : List Rg × Int).2) (.tuple #[.slice .none 0 0, .int .i64 e]) [(⟨.none, 0, 0, []⟩ : Ow Rg).own encRg] := ⟨⟨.none, 0, 0, []⟩, rfl, rfl, rfl, rfl⟩
set_option maxRecDepth 100000 in
set_option maxHeartbeats 4000000 in
theorem put_spec (A : Option Addr) (m c : Nat) (l : List Rg) (r : Rg) (hm : m ≤ 9223372036854775807) (hmc : m ≤ c) (hl : ∀ r ∈ l, r.In) (hr : r.In) :
    Ctr Try.prog 37 [.slice A m c, rgV r] (fun h => rdS encRg h A m l) [] (LRes encRg (putP l r).1 (.int .i64 (putP l r).2)) := by
  refine Ctr.intro Try.func37 rfl rfl (by decide +kernel) fun F hpre => ?_
  have r1 : rdS encRg F.heap A m l := hpre
  have hlen := r1.1
  have q1 := hr.p; have q2 := hr.n; have q3 := hr.m; have ee : r.end = r.p + r.n := rfl
  have gd : checkE l = 0 → m ≤ 1024 ∧ ∀ r ∈ l, r.Ok := fun h => by have := checkE_good h; exact ⟨by omega, this.2⟩
  repeat' (first | (refine XL_id ?_; first | refine XL_nil ?_ | refine XL_guard_yes rfl rfl rfl ?_ | refine XL_guard_no rfl rfl rfl rfl rfl ?_ | (refine XG_load ?_; refine XL_load tt_ok 0 rfl rfl rfl rfl rfl rfl ?_) | (refine XG_box ?_; (refine XL_box rfl (fun _ => rfl) (fun _ => ?_); refine XL_nB (by repeat' (first | exact .nil | apply NL.cons)) ?_)) | (refine XG_call ?_; first | refine XL_fn (end_ok r (pgs_ok (by assumption) (by assumption))) rfl rfl (fun _ _ _ => trivial) ?_ | (refine XL_callK [] (changed_spec A _ m c 1 1 l [r] _ _ (gd (by omega)).1 hmc (by omega) (gd (by omega)).2 (one_ok (pgs_ok (by assumption) (by assumption))) (pgs_rng (by assumption)).1 (by have := pgs_rng (p := r.p) (n := r.n) (by assumption); omega) (by have := pgs_rng (p := r.p) (n := r.n) (by assumption); omega) (by have := pgs_rng (p := r.p) (n := r.n) (by assumption); omega)) rfl rfl (fun _ => rfl) (fun g hg hL => ⟨(r1.le hFG).le hg, blk_rdS (blk_at 0 rfl hL) rfl rfl⟩) (fun u L hv => ?_); obtain ⟨o, ho1, ho2, rfl, rfl⟩ := hv; have lno : o.m ≤ 9000 := (by rw [ho2, ho1]; exact changedF_length _ _ (by have := (gd (by omega)).1; omega) (by simp)); rcases Nat.lt_or_ge 1024 o.m with hfw | hfw) | refine XL_fn (few_yes _ _ _ hfw (by omega)) rfl rfl (fun _ _ _ => trivial) ?_ | refine XL_fn (few_no _ _ _ hfw) rfl rfl (fun _ _ _ => trivial) ?_ | refine XL_fn (check_spec _ _ _ _ (by omega) (by assumption)) rfl rfl (fun g hg _ => rdS.le (by assumption) hg) ?_ | (refine XL_fn (pages_spec _ _ (by omega) (by omega)) rfl rfl (fun _ _ _ => trivial) ?_; refine XL_bool (fun _ => ?_) (fun _ => ?_)) | (refine XL_fn (perms_spec _) rfl rfl (fun _ _ _ => trivial) ?_; refine XL_bool (fun _ => ?_) (fun _ => ?_))) | (refine XG_lit ?_; (refine XL_lit tt_ok rfl rfl rfl rfl rfl rfl rfl rfl rfl (fun _ => rfl) (fun b => ?_); refine XL_nB (by repeat' (first | exact .nil | apply NL.cons)) ?_)) | (refine XL_op tt_ok rfl rfl ?_; try (refine XL_dec (fun _ => ?_) (fun _ => ?_)))) | (refine XD_id ?_; first | (refine XD_thaw thaw ?_; refine XD_nil ?_) | (refine XD_id ?_; (first | (refine XD_uL rfl ?_; first | refine XD_s rfl rfl rfl (XV_loadW tt_ok rfl (blk_at 0 rfl hM) rfl rfl rfl) rfl ?_ | refine XD_s rfl rfl rfl (XV_load tt_ok rfl (blk_at 0 rfl hM) rfl rfl rfl) rfl ?_) | (refine XD_u rfl rfl ?_; refine XD_s rfl rfl rfl (XV_op tt_ok rfl) rfl ?_))) | refine XD_m rfl rfl ?_) | (refine X_id ?_; first | (refine X_drawW (id := 6) ⟨[0, 1, 2, 3, 5], 4, [6, 7, 8, 9, 10, 11, 12]⟩ ⟨[0, 1, 2, 3, 5], 6, [4, 7, 8, 9, 10, 11, 12]⟩ (fun | 4 => .m | 6 => .m | 7 => .m | _ => .s) 8 (by repeat' (first | exact Split.nil | apply Split.blk)) mixed (by decide +kernel) ?_ ?_ <;> (intro G hFG hM thaw; (first | show XD _ _ _ _ _ _ [0, 1, 2, 3, 5, 4, 6, 7, 8, 9, 10, 11, 12] _ _ _ | show XD _ _ _ _ _ _ [0, 1, 2, 3, 5, 6, 4, 7, 8, 9, 10, 11, 12] _ _ _))) | refine X_seq ?_ | (refine X_regionN (by repeat' (first | exact .nil | apply NL.cons)) ?_) | refine X_skip ?_ | refine X_ret ?_ | refine X_cond_t rfl ?_ | refine X_cond_f rfl ?_) | (refine Y_id ?_; first | refine Y_then ?_ | refine Y_then_ret ?_ | refine Y_m ?_))
  all_goals first
    | exact Y_ret2 rfl rfl rfl (fin_nil encRg) (LRes.at (putP_1 (by assumption)) (LRes.none _))
    | exact Y_ret2 rfl rfl rfl (fin_nil encRg) (LRes.at (putP_2 (by assumption) (by assumption)) (LRes.none _))
    | exact Y_ret2 rfl rfl rfl (fin_nil encRg) (LRes.at (putP_2' (by assumption) (by assumption)) (LRes.none _))
    | exact Y_ret2 rfl rfl rfl (fin_nil encRg) (LRes.at (putP_3 (by assumption) (by assumption) (by assumption) (by assumption)) (LRes.none _))
    | exact Y_ret2 rfl rfl rfl (fin_nil encRg) (LRes.at ((putP_4 (by assumption) (by assumption) (by assumption) (by assumption)).trans (fewP_yes (by rw [← ho1, ← ho2]; exact hfw))) (LRes.none _))
    | exact Y_ret2 rfl rfl rfl (stars_fin1 0 rfl) (LRes.at ((putP_4 (by assumption) (by assumption) (by assumption) (by assumption)).trans (fewP_no (by rw [← ho1, ← ho2]; exact hfw))) ⟨o, ho1, ho2, rfl, rfl⟩)
end Go.Proofs.Ytalkcemelegohaa.Vm
set_option linter.unusedVariables false
set_option maxRecDepth 100000
namespace Go.Proofs.Ytalkcemelegohaa.Vm
open Go.RowKit Go.Cof

abbrev spV (p n : Int) : Value := .agg #[.int .i64 p, .int .i64 n]
theorem cutP_1 {l : List Rg} {p n : Int} (h : ¬ checkE l = 0) : cutP l p n = ([], checkE l) := by unfold cutP; rw [if_pos h]
theorem cutP_2 {l : List Rg} {p n : Int} (h : ¬ ¬ checkE l = 0) (h1 : pgs p n = false) : cutP l p n = ([], 2) := by unfold cutP; rw [if_neg h, if_pos h1]
theorem cutP_4 {l : List Rg} {p n : Int} (h : ¬ ¬ checkE l = 0) (h1 : pgs p n = true) : cutP l p n = fewP (changedF l p (p + n) []).1 := by unfold cutP; rw [if_neg h, if_neg (by simp [h1])]
set_option maxRecDepth 100000 in
set_option maxHeartbeats 4000000 in
theorem cut_spec (A : Option Addr) (m c : Nat) (l : List Rg) (p n : Int) (hm : m ≤ 9223372036854775807) (hmc : m ≤ c) (hl : ∀ r ∈ l, r.In) (q1 : -9223372036854775808 ≤ p ∧ p ≤ 9223372036854775807) :
    Ctr Try.prog 38 [.slice A m c, spV p n] (fun h => rdS encRg h A m l) [] (LRes encRg (cutP l p n).1 (.int .i64 (cutP l p n).2)) := by
  refine Ctr.intro Try.func38 rfl rfl (by decide +kernel) fun F hpre => ?_
  have r1 : rdS encRg F.heap A m l := hpre
  have hlen := r1.1
  have gd : checkE l = 0 → m ≤ 1024 ∧ ∀ r ∈ l, r.Ok := fun h => by have := checkE_good h; exact ⟨by omega, this.2⟩
  have wr : pgs p n = true → IntKind.i64.wrap (p + n) = p + n := fun h => by have := pgs_rng h; exact wrap_i64 (by omega) (by omega)
  repeat' (first | (refine XL_id ?_; first | refine XL_nil ?_ | (refine XL_int (wr (by assumption)) ?_; refine XL_callK [] (changed_spec A _ m c 0 0 l [] _ _ (gd (by omega)).1 hmc (by omega) (gd (by omega)).2 (fun _ h => by cases h) (pgs_rng (by assumption)).1 (by have := pgs_rng (p := p) (n := n) (by assumption); omega) (by have := pgs_rng (p := p) (n := n) (by assumption); omega) (by have := pgs_rng (p := p) (n := n) (by assumption); omega)) rfl rfl (fun _ => rfl) (fun g hg hL => ⟨r1.le hg, rdS.nil _ _ _⟩) (fun u L hv => ?_); obtain ⟨o, ho1, ho2, rfl, rfl⟩ := hv; have lno : o.m ≤ 9000 := (by rw [ho2, ho1]; exact changedF_length _ _ (by have := (gd (by omega)).1; omega) (by simp)); rcases Nat.lt_or_ge 1024 o.m with hfw | hfw) | (refine XG_load ?_; refine XL_load tt_ok 0 rfl rfl rfl rfl rfl rfl ?_) | (refine XG_box ?_; (refine XL_box rfl (fun _ => rfl) (fun _ => ?_); refine XL_nB (by repeat' (first | exact .nil | apply NL.cons)) ?_)) | (refine XG_call ?_; first | refine XL_fn (few_yes _ _ _ hfw (by omega)) rfl rfl (fun _ _ _ => trivial) ?_ | refine XL_fn (few_no _ _ _ hfw) rfl rfl (fun _ _ _ => trivial) ?_ | refine XL_fn (check_spec _ _ _ _ (by omega) (by assumption)) rfl rfl (fun g hg _ => rdS.le (by assumption) hg) ?_ | (refine XL_fn (pages_spec _ _ (by omega) (by omega)) rfl rfl (fun _ _ _ => trivial) ?_; refine XL_bool (fun _ => ?_) (fun _ => ?_))) | (refine XL_op tt_ok rfl rfl ?_; try (refine XL_dec (fun _ => ?_) (fun _ => ?_)))) | (refine X_id ?_; first | refine X_seq ?_ | (refine X_regionN (by repeat' (first | exact .nil | apply NL.cons)) ?_) | refine X_skip ?_ | refine X_ret ?_ | refine X_cond_t rfl ?_ | refine X_cond_f rfl ?_) | (refine Y_id ?_; first | refine Y_then ?_ | refine Y_then_ret ?_))
  all_goals first
    | exact Y_ret2 rfl rfl rfl (fin_nil encRg) (LRes.at (cutP_1 (by assumption)) (LRes.none _))
    | exact Y_ret2 rfl rfl rfl (fin_nil encRg) (LRes.at (cutP_2 (by assumption) (by assumption)) (LRes.none _))
    | exact Y_ret2 rfl rfl rfl (fin_nil encRg) (LRes.at ((cutP_4 (by assumption) (by assumption)).trans (fewP_yes (by rw [← ho1, ← ho2]; exact hfw))) (LRes.none _))
    | exact Y_ret2 rfl rfl rfl (stars_fin1 0 rfl) (LRes.at ((cutP_4 (by assumption) (by assumption)).trans (fewP_no (by rw [← ho1, ← ho2]; exact hfw))) ⟨o, ho1, ho2, rfl, rfl⟩)
theorem protP_1 {l : List Rg} {p n m : Int} (h : ¬ checkE l = 0) : protP l p n m = ([], checkE l) := by unfold protP; rw [if_pos h]
theorem protP_2 {l : List Rg} {p n m : Int} (h : ¬ ¬ checkE l = 0) (h1 : pgs p n = false) : protP l p n m = ([], 2) := by unfold protP; rw [if_neg h, if_pos (.inl h1)]
theorem protP_2' {l : List Rg} {p n m : Int} (h : ¬ ¬ checkE l = 0) (h1 : prm m = false) : protP l p n m = ([], 2) := by unfold protP; rw [if_neg h, if_pos (.inr h1)]
theorem protP_3 {l : List Rg} {p n m : Int} (h : ¬ ¬ checkE l = 0) (h1 : pgs p n = true) (h2 : prm m = true) (h3 : (changedF l p (p + n) [⟨p, n, m⟩]).2 < n) : protP l p n m = ([], 170) := by unfold protP; rw [if_neg h, if_neg (by simp [h1, h2]), if_pos h3]
theorem protP_4 {l : List Rg} {p n m : Int} (h : ¬ ¬ checkE l = 0) (h1 : pgs p n = true) (h2 : prm m = true) (h3 : ¬ (changedF l p (p + n) [⟨p, n, m⟩]).2 < n) : protP l p n m = fewP (changedF l p (p + n) [⟨p, n, m⟩]).1 := by unfold protP; rw [if_neg h, if_neg (by simp [h1, h2]), if_neg h3]
set_option maxRecDepth 100000 in
set_option maxHeartbeats 4000000 in
theorem prot_spec (A : Option Addr) (m c : Nat) (l : List Rg) (p n q : Int) (hm : m ≤ 9223372036854775807) (hmc : m ≤ c) (hl : ∀ r ∈ l, r.In) (q1 : -9223372036854775808 ≤ p ∧ p ≤ 9223372036854775807) :
    Ctr Try.prog 64 [.slice A m c, spV p n, .int .u8 q] (fun h => rdS encRg h A m l) [] (LRes encRg (protP l p n q).1 (.int .i64 (protP l p n q).2)) := by
  refine Ctr.intro Try.func64 rfl rfl (by decide +kernel) fun F hpre => ?_
  have r1 : rdS encRg F.heap A m l := hpre
  have hlen := r1.1
  have gd : checkE l = 0 → m ≤ 1024 ∧ ∀ r ∈ l, r.Ok := fun h => by have := checkE_good h; exact ⟨by omega, this.2⟩
  have wr : pgs p n = true → IntKind.i64.wrap (p + n) = p + n := fun h => by have := pgs_rng h; exact wrap_i64 (by omega) (by omega)
  repeat' (first | (refine XL_id ?_; first | refine XL_nil ?_ | refine XL_guard_yes rfl rfl rfl ?_ | refine XL_guard_no rfl rfl rfl rfl rfl ?_ | refine XL_int (wr (by assumption)) ?_ | (refine XG_load ?_; first | refine XL_load tt_ok 0 rfl rfl rfl rfl rfl rfl ?_ | refine XL_load tt_ok 2 rfl rfl rfl rfl rfl rfl ?_) | (refine XG_box ?_; (refine XL_box rfl (fun _ => rfl) (fun _ => ?_); refine XL_nB (by repeat' (first | exact .nil | apply NL.cons)) ?_)) | (refine XG_build ?_; (refine XL_build tt_ok rfl rfl rfl rfl rfl rfl rfl ?_; refine XL_aggN (by repeat' (first | exact .nil | apply NL.cons)) ?_)) | (refine XG_call ?_; first | (refine XL_callK [] (changed_spec A _ m c 1 1 l [⟨p, n, q⟩] _ _ (gd (by omega)).1 hmc (by omega) (gd (by omega)).2 (one_ok (pgs_ok (by assumption) (by assumption))) (pgs_rng (by assumption)).1 (by have := pgs_rng (p := p) (n := n) (by assumption); omega) (by have := pgs_rng (p := p) (n := n) (by assumption); omega) (by have := pgs_rng (p := p) (n := n) (by assumption); omega)) rfl rfl (fun _ => rfl) (fun g hg hL => ⟨r1.le hg, blk_rdS (blk_at 0 rfl hL) rfl rfl⟩) (fun u L hv => ?_); obtain ⟨o, ho1, ho2, rfl, rfl⟩ := hv; have lno : o.m ≤ 9000 := (by rw [ho2, ho1]; exact changedF_length _ _ (by have := (gd (by omega)).1; omega) (by simp)); rcases Nat.lt_or_ge 1024 o.m with hfw | hfw) | refine XL_fn (few_yes _ _ _ hfw (by omega)) rfl rfl (fun _ _ _ => trivial) ?_ | refine XL_fn (few_no _ _ _ hfw) rfl rfl (fun _ _ _ => trivial) ?_ | refine XL_fn (check_spec _ _ _ _ (by omega) (by assumption)) rfl rfl (fun g hg _ => rdS.le (by assumption) hg) ?_ | (refine XL_fn (pages_spec _ _ (by omega) (by omega)) rfl rfl (fun _ _ _ => trivial) ?_; refine XL_bool (fun _ => ?_) (fun _ => ?_)) | (refine XL_fn (perms_spec _) rfl rfl (fun _ _ _ => trivial) ?_; refine XL_bool (fun _ => ?_) (fun _ => ?_))) | (refine XG_lit ?_; (refine XL_lit tt_ok rfl rfl rfl rfl rfl rfl rfl rfl rfl (fun _ => rfl) (fun b => ?_); refine XL_nB (by repeat' (first | exact .nil | apply NL.cons)) ?_)) | (refine XL_op tt_ok rfl rfl ?_; try (refine XL_dec (fun _ => ?_) (fun _ => ?_)))) | (refine X_id ?_; first | refine X_seq ?_ | (refine X_regionN (by repeat' (first | exact .nil | apply NL.cons)) ?_) | refine X_skip ?_ | refine X_ret ?_ | refine X_cond_t rfl ?_ | refine X_cond_f rfl ?_) | (refine Y_id ?_; first | refine Y_then ?_ | refine Y_then_ret ?_))
  all_goals first
    | exact Y_ret2 rfl rfl rfl (fin_nil encRg) (LRes.at (protP_1 (by assumption)) (LRes.none _))
    | exact Y_ret2 rfl rfl rfl (fin_nil encRg) (LRes.at (protP_2 (by assumption) (by assumption)) (LRes.none _))
    | exact Y_ret2 rfl rfl rfl (fin_nil encRg) (LRes.at (protP_2' (by assumption) (by assumption)) (LRes.none _))
    | exact Y_ret2 rfl rfl rfl (fin_nil encRg) (LRes.at (protP_3 (by assumption) (by assumption) (by assumption) (by assumption)) (LRes.none _))
    | exact Y_ret2 rfl rfl rfl (fin_nil encRg) (LRes.at ((protP_4 (by assumption) (by assumption) (by assumption) (by assumption)).trans (fewP_yes (by rw [← ho1, ← ho2]; exact hfw))) (LRes.none _))
    | exact Y_ret2 rfl rfl rfl (stars_fin1 0 rfl) (LRes.at ((protP_4 (by assumption) (by assumption) (by assumption) (by assumption)).trans (fewP_no (by rw [← ho1, ← ho2]; exact hfw))) ⟨o, ho1, ho2, rfl, rfl⟩)
end Go.Proofs.Ytalkcemelegohaa.Vm
set_option linter.unusedVariables false
set_option maxRecDepth 100000
namespace Go.Proofs.Ytalkcemelegohaa.Vm
open Go.RowKit Go.Cof

theorem trivial_parts {F : Frz} {w : World} {L : List HProp} (h : St F w L) : St F w [] := h.nil
theorem take_snoc {α : Type} [Inhabited α] (l : List α) (i : Nat) (h : i < l.length) : l.take (i + 1) = l.take i ++ [Cof.get l i] := by
  rw [List.take_succ_eq_append_getElem h]
  unfold Cof.get
  rw [Int.toNat_natCast, List.getD_eq_getElem?_getD, List.getElem?_eq_getElem h]
  rfl
def findP (l : List Rg) (page : Int) : Rg × Bool × Int :=
  if checkE l ≠ 0 then (⟨0, 0, 0⟩, false, checkE l) else if page < 0 ∨ 1048576 ≤ page then (⟨0, 0, 0⟩, false, 2) else
  if firstN l page < l.length ∧ (Cof.get l (firstN l page : Nat)).p ≤ page then (Cof.get l (firstN l page : Nat), true, 0) else (⟨0, 0, 0⟩, false, 0)
def findV (x : Rg × Bool × Int) : Value := .tuple #[rgV x.1, .bool x.2.1, .int .i64 x.2.2]
theorem findP_1 {l : List Rg} {page : Int} (h : ¬ checkE l = 0) : findP l page = (⟨0, 0, 0⟩, false, checkE l) := by unfold findP; rw [if_pos h]
theorem findP_2 {l : List Rg} {page : Int} (h : ¬ ¬ checkE l = 0) (h1 : page < 0 ∨ 1048576 ≤ page) : findP l page = (⟨0, 0, 0⟩, false, 2) := by unfold findP; rw [if_neg h, if_pos h1]
theorem findP_3 {l : List Rg} {page : Int} (h : ¬ ¬ checkE l = 0) (h1 : ¬ (page < 0 ∨ 1048576 ≤ page)) (h2 : firstN l page < l.length) (h3 : (Cof.get l (firstN l page : Nat)).p ≤ page) : findP l page = (Cof.get l (firstN l page : Nat), true, 0) := by unfold findP; rw [if_neg h, if_neg h1, if_pos ⟨h2, h3⟩]
theorem findP_4 {l : List Rg} {page : Int} (h : ¬ ¬ checkE l = 0) (h1 : ¬ (page < 0 ∨ 1048576 ≤ page)) (h2 : ¬ firstN l page < l.length ∨ ¬ (Cof.get l (firstN l page : Nat)).p ≤ page) : findP l page = (⟨0, 0, 0⟩, false, 0) := by
  unfold findP; rw [if_neg h, if_neg h1, if_neg fun hc => h2.elim (fun h => h hc.1) fun h => h hc.2]
set_option maxRecDepth 100000 in
set_option maxHeartbeats 4000000 in
theorem find_spec (A : Option Addr) (m c : Nat) (l : List Rg) (page : Int) (hm : m ≤ 9223372036854775807) (hl : ∀ r ∈ l, r.In) :
    FnC Try.prog 56 [.slice A m c, .int .i64 page] (fun h => rdS encRg h A m l) (findV (findP l page)) := by
  refine Ctr.intro Try.func56 rfl rfl (by decide +kernel) fun F hpre => ?_
  have r1 : rdS encRg F.heap A m l := hpre
  have hlen := r1.1
  have gd : checkE l = 0 → m ≤ 1024 ∧ ∀ r ∈ l, r.Ok := fun h => by have := checkE_good h; exact ⟨by omega, this.2⟩
  repeat' (first | (refine XL_id ?_; first | refine XL_nil ?_ | refine XL_guard_yes rfl rfl rfl ?_ | refine XL_guard_no rfl rfl rfl rfl rfl ?_ | (refine XG_load ?_; first | refine XL_elW tt_ok rfl (by assumption) rfl (by omega) (by omega) rfl rfl rfl rfl ?_ | refine XL_el tt_ok rfl (by assumption) rfl (by omega) (by omega) rfl rfl rfl rfl ?_) | (refine XG_idx ?_; refine XL_idx tt_ok rfl rfl rfl rfl rfl (by assumption) (by omega) (by omega) rfl ?_) | (refine XG_build ?_; (refine XL_build tt_ok rfl rfl rfl rfl rfl rfl rfl ?_; refine XL_aggN (by repeat' (first | exact .nil | apply NL.cons)) ?_)) | (refine XG_call ?_; first | (refine XL_op tt_ok rfl rfl ?_) | (refine XL_fn (first_spec A m c l page (by omega) (gd (by omega)).2) rfl rfl (fun g hg _ => r1.le hg) ?_) | refine XL_fn (check_spec _ _ _ _ (by omega) (by assumption)) rfl rfl (fun g hg _ => rdS.le (by assumption) hg) ?_) | (refine XG_alloc ?_; (refine XL_alloc tt_ok rfl rfl (fun _ => rfl) (fun b => ?_); refine XL_nB (by repeat' (first | exact .nil | apply NL.cons)) ?_)) | (refine XG_store ?_; (refine XL_storeW tt_ok 0 rfl rfl rfl rfl rfl rfl rfl ?_; refine XL_nK 0 rfl (by repeat' (first | exact .nil | apply NL.cons)) ?_)) | (refine XL_op tt_ok rfl rfl ?_; try (refine XL_dec (fun _ => ?_) (fun _ => ?_)))) | (refine X_id ?_; first | refine X_seq ?_ | (refine X_regionN (by repeat' (first | exact .nil | apply NL.cons)) ?_) | refine X_skip ?_ | refine X_ret ?_ | refine X_cond_t rfl ?_ | refine X_cond_f rfl ?_) | (refine Y_id ?_; first | refine Y_then ?_ | refine Y_then_ret ?_))
  all_goals first
    | exact Y_res3 rfl (.cell tt_ok 0 rfl rfl rfl rfl rfl) (.tmp rfl) (.tmp rfl) (L' := []) (fun _ _ => trivial) ⟨by rw [findP_1 (by assumption)]; rfl, rfl⟩
    | exact Y_res3 rfl (.cell tt_ok 0 rfl rfl rfl rfl rfl) (.tmp rfl) (.tmp rfl) (L' := []) (fun _ _ => trivial) ⟨by rw [findP_2 (by assumption) (by omega)]; rfl, rfl⟩
    | exact Y_res3 rfl (.cell tt_ok 0 rfl rfl rfl rfl rfl) (.tmp rfl) (.tmp rfl) (L' := []) (fun _ _ => trivial) ⟨by rw [findP_3 (by assumption) (by omega) (by omega) (by omega)]; rfl, rfl⟩
    | exact Y_res3 rfl (.cell tt_ok 0 rfl rfl rfl rfl rfl) (.tmp rfl) (.tmp rfl) (L' := []) (fun _ _ => trivial) ⟨by rw [findP_4 (by assumption) (by omega) (by omega)]; rfl, rfl⟩
    | skip
  
/-- From p on, past the regions that leave no room. -/
def gapL (n : Int) : List Rg → Int → Int
  | [], p => p
  | r :: l, p => if r.p - p ≥ n then p else gapL n l (if r.end > p then r.end else p)
def gapP (l : List Rg) (n from_ to : Int) : Int × Bool × Int :=
  if checkE l ≠ 0 then (0, false, checkE l) else if n < 1 ∨ n > 1048576 ∨ from_ < 0 ∨ to > 1048576 ∨ from_ > to then (0, false, 2) else
  if gapL n (l.drop (firstN l from_)) from_ > to - n then (0, false, 0) else (gapL n (l.drop (firstN l from_)) from_, true, 0)
def gapV (x : Int × Bool × Int) : Value := .tuple #[.int .i64 x.1, .bool x.2.1, .int .i64 x.2.2]
theorem gapP_1 {l : List Rg} {n from_ to : Int} (h : ¬ checkE l = 0) : gapP l n from_ to = (0, false, checkE l) := by unfold gapP; rw [if_pos h]
theorem gapP_2 {l : List Rg} {n from_ to : Int} (h : ¬ ¬ checkE l = 0) (h1 : n < 1 ∨ n > 1048576 ∨ from_ < 0 ∨ to > 1048576 ∨ from_ > to) : gapP l n from_ to = (0, false, 2) := by unfold gapP; rw [if_neg h, if_pos h1]
theorem gapP_3 {l : List Rg} {n from_ to p : Int} (h : ¬ ¬ checkE l = 0) (h1 : ¬ (n < 1 ∨ n > 1048576 ∨ from_ < 0 ∨ to > 1048576 ∨ from_ > to)) (hp : gapL n (l.drop (firstN l from_)) from_ = p) (h2 : p > to - n) : gapP l n from_ to = (0, false, 0) := by unfold gapP; rw [if_neg h, if_neg h1, hp, if_pos h2]
theorem gapP_4 {l : List Rg} {n from_ to p : Int} (h : ¬ ¬ checkE l = 0) (h1 : ¬ (n < 1 ∨ n > 1048576 ∨ from_ < 0 ∨ to > 1048576 ∨ from_ > to)) (hp : gapL n (l.drop (firstN l from_)) from_ = p) (h2 : ¬ p > to - n) : gapP l n from_ to = (p, true, 0) := by unfold gapP; rw [if_neg h, if_neg h1, hp, if_neg h2]
theorem drop_get {α : Type} [Inhabited α] (l : List α) (i : Nat) (h : i < l.length) : l.drop i = Cof.get l i :: l.drop (i + 1) := by
  rw [List.drop_eq_getElem_cons h]
  unfold Cof.get
  rw [Int.toNat_natCast, List.getD_eq_getElem?_getD, List.getElem?_eq_getElem h]
  rfl
theorem gapL_stop {n : Int} {r : Rg} {l : List Rg} {p : Int} (h : r.p - p ≥ n) : gapL n (r :: l) p = p := if_pos h
theorem gapL_on {n : Int} {r : Rg} {l : List Rg} {p : Int} (h : ¬ r.p - p ≥ n) : gapL n (r :: l) p = gapL n l (if r.end > p then r.end else p) := if_neg h
set_option maxRecDepth 100000 in
set_option maxHeartbeats 4000000 in
theorem gap_spec (A : Option Addr) (m c : Nat) (l : List Rg) (n from_ to : Int) (hm : m ≤ 9223372036854775807) (hmc : m ≤ c) (hl : ∀ r ∈ l, r.In) (q1 : -9223372036854775808 ≤ from_ ∧ from_ ≤ 9223372036854775807) (q2 : -9223372036854775808 ≤ to ∧ to ≤ 9223372036854775807) (q3 : -9223372036854775808 ≤ n ∧ n ≤ 9223372036854775807) :
    FnC Try.prog 36 [.slice A m c, .int .i64 n, .int .i64 from_, .int .i64 to] (fun h => rdS encRg h A m l) (gapV (gapP l n from_ to)) := by
  refine Ctr.intro Try.func36 rfl rfl (by decide +kernel) fun F hpre => ?_
  have r1 : rdS encRg F.heap A m l := hpre
  have hlen := r1.1
  have gd : checkE l = 0 → m ≤ 1024 ∧ ∀ r ∈ l, r.Ok := fun h => by have := checkE_good h; exact ⟨by omega, this.2⟩
  have hk := firstN_le l from_
  generalize hkk : firstN l from_ = k at hk
  have r4 := r1.sub (l := k) (k := m) (cc := c) (by omega) (Nat.le_refl _) hmc
  rw [List.take_of_length_le (by omega)] at r4
  have hf := fun hg : ∀ r ∈ l, r.Ok => first_spec A m c l from_ (by omega) hg
  rw [hkk] at hf
  repeat' (first | (refine XL_id ?_; first | refine XL_nil ?_ | refine XL_guard_yes rfl rfl rfl ?_ | refine XL_guard_no rfl rfl rfl rfl rfl ?_ | (refine XG_call ?_; first | (refine XL_op tt_ok rfl rfl ?_) | refine XL_fn (hf (gd (by omega)).2) rfl rfl (fun g hg _ => r1.le hg) ?_ | refine XL_fn (check_spec _ _ _ _ (by omega) (by assumption)) rfl rfl (fun g hg _ => rdS.le (by assumption) hg) ?_) | (refine XG_slice ?_; refine XL_slice tt_ok rfl rfl rfl rfl (.lo (by omega) (by omega)) rfl rfl rfl rfl ?_) | (refine XL_op tt_ok rfl rfl ?_; try (first | refine XL_int (wrap_i64 (by omega) (by omega)) ?_ | refine XL_dec (fun _ => ?_) (fun _ => ?_)))) | (refine X_id ?_; first | refine X_cutD (c := .block 0 _) [1, 3] (fun (p : Int) => [(12, .int .i64 p)]) (fun p => []) (fun p => gapL n (l.drop k) from_ = p ∧ 0 ≤ p ∧ p ≤ 1048576) rfl (X_block ?_) (fun p hp => ?_) | refine X_seq ?_ | (refine X_regionN (by repeat' (exact .nil)) ?_) | refine X_skip ?_ | refine X_ret ?_ | refine X_cond_t rfl ?_ | refine X_cond_f rfl ?_) | (refine Y_id ?_; first | refine Y_then ?_ | refine Y_then_ret ?_))
  all_goals first
    | exact Y_fn3 rfl rfl rfl rfl (by rw [gapP_1 (by assumption)]; rfl)
    | exact Y_fn3 rfl rfl rfl rfl (by rw [gapP_2 (by assumption) (by omega)]; rfl)
    | exact Y_fn3 rfl rfl rfl rfl (by rw [gapP_3 (p := p) (by assumption) (by omega) (by rw [hkk]; exact hp.1) (by omega)]; rfl)
    | exact Y_fn3 rfl rfl rfl rfl (by rw [gapP_4 (p := p) (by assumption) (by omega) (by rw [hkk]; exact hp.1) (by omega)]; rfl)
    | skip
  have gd2 := gd (by omega)
  refine X_loopD2 [1, 3, 44, 45] (fun (i : Nat) (p : Int) => [(46, .int .i64 i), (12, .int .i64 p)]) (fun _ _ => []) (fun i p => i ≤ m - k ∧ gapL n (l.drop k) from_ = gapL n ((l.drop k).drop i) p ∧ 0 ≤ p ∧ p ≤ 1048576) (fun i _ => m - k - i) 0 from_ rfl ⟨Nat.zero_le _, rfl, by omega, by omega⟩ (by (repeat' (first | exact trivial | refine And.intro rfl ?_)); done) (fun _ h => h) ?_
  intro i p hi
  obtain ⟨hi, hg, hp0, hp1⟩ := hi
  by_cases hlt : i < m - k
  · have okr : (Cof.get (l.drop k) i).Ok := gd2.2 _ (List.mem_of_mem_drop (get_mem (by omega) (by rw [List.length_drop]; omega)))
    have q1 := okr.p; have q2 := okr.n; have q3 := okr.e; have ee : (Cof.get (l.drop k) i).end = (Cof.get (l.drop k) i).p + (Cof.get (l.drop k) i).n := rfl
    rw [drop_get (l.drop k) i (by rw [List.length_drop]; omega)] at hg
    repeat' (first | (refine XL_id ?_; first | refine XL_nil ?_ | (refine XG_load ?_; first | refine XL_loadW tt_ok 0 rfl rfl rfl rfl rfl rfl ?_ | refine XL_load tt_ok 0 rfl rfl rfl rfl rfl rfl ?_ | refine XL_elW tt_ok rfl (by assumption) rfl (by omega) (by omega) rfl rfl rfl rfl ?_) | (refine XG_idx ?_; refine XL_idx tt_ok rfl rfl rfl rfl rfl (by assumption) (by omega) (by omega) rfl ?_) | (refine XG_call ?_; first | (refine XL_op tt_ok rfl rfl ?_) | refine XL_fn (end_ok _ okr) rfl rfl (fun _ _ _ => trivial) ?_) | (refine XG_alloc ?_; (refine XL_alloc tt_ok rfl rfl (fun _ => rfl) (fun b => ?_); refine XL_nB (by repeat' (first | exact .nil | apply NL.cons)) ?_)) | (refine XG_store ?_; (refine XL_storeW tt_ok 0 rfl rfl rfl rfl rfl rfl rfl ?_; refine XL_nK 0 rfl (by repeat' (first | exact .nil | apply NL.cons)) ?_)) | (refine XL_op tt_ok rfl rfl ?_; try (first | refine XL_int (wrap_i64 (by omega) (by omega)) ?_ | refine XL_dec_t (by omega) ?_ | refine XL_dec (fun _ => ?_) (fun _ => ?_)))) | (refine X_id ?_; first | refine X_seq ?_ | (refine X_regionN (by repeat' (first | exact .nil | apply NL.cons)) ?_) | refine X_skip ?_ | refine X_exit ?_ | refine X_block ?_ | refine X_cond_t rfl ?_ | refine X_cond_f rfl ?_) | (refine Y_id ?_; first | refine Y_then ?_ | refine Y_then_exit ?_ | refine Y_block_hit ?_ | refine Y_block_miss rfl ?_ | refine Y_block_normal ?_))
    · exact Y_again p fun _ _ hf hs => ⟨⟨hg.trans (gapL_stop (by omega)), hp0, hp1⟩, hf.sub (by (repeat' (first | exact trivial | refine And.intro rfl ?_)); done), trivial_parts hs⟩
    · exact Y_again (i + 1, if (Cof.get (l.drop k) i).end > p then (Cof.get (l.drop k) i).end else p) fun _ _ hf hs => ⟨⟨by show i + 1 ≤ m - k; omega, hg.trans (gapL_on (by omega)), by show 0 ≤ if (Cof.get (l.drop k) i).end > p then (Cof.get (l.drop k) i).end else p; omega, by show (if (Cof.get (l.drop k) i).end > p then (Cof.get (l.drop k) i).end else p) ≤ _; omega⟩, by show m - k - (i + 1) < m - k - i; omega, hf.sub (by (repeat' (first | exact trivial | refine And.intro rfl ?_)); done), trivial_parts hs⟩
  · have e0 : (l.drop k).drop i = [] := List.drop_of_length_le (by rw [List.length_drop]; omega)
    rw [e0] at hg
    repeat' (first | (refine XL_id ?_; first | refine XL_nil ?_ | (refine XL_op tt_ok rfl rfl ?_; try (refine XL_dec_f (by omega) ?_))) | (refine X_id ?_; first | refine X_seq ?_ | (refine X_regionN (by repeat' (exact .nil)) ?_) | refine X_exit ?_ | refine X_cond_f rfl ?_) | (refine Y_id ?_; first | refine Y_then ?_ | refine Y_then_exit ?_ | refine Y_block_hit ?_))
    exact Y_again p fun _ _ hf hs => ⟨⟨hg, hp0, hp1⟩, hf.sub (by (repeat' (first | exact trivial | refine And.intro rfl ?_)); done), trivial_parts hs⟩
def pagesP (l : List Rg) : Int × Int := if checkE l ≠ 0 then (0, checkE l) else (l.foldl (fun s r => s + r.n) 0, 0)
theorem pagesP_1 {l : List Rg} (h : ¬ checkE l = 0) : pagesP l = (0, checkE l) := if_pos h
theorem pagesP_2 {l : List Rg} (h : ¬ ¬ checkE l = 0) : pagesP l = (l.foldl (fun s r => s + r.n) 0, 0) := if_neg h
theorem sum_num : ∀ (l : List Rg) (s : Int), (∀ r ∈ l, r.Ok) → s ≤ l.foldl (fun s r => s + r.n) s ∧ l.foldl (fun s r => s + r.n) s ≤ s + l.length * 1048576
  | [], _, _ => by simp
  | r :: l, s, h => by
    have := sum_num l (s + r.n) fun x hx => h x (by simp [hx])
    have h0 := h r (by simp)
    have := h0.n; have := h0.e; have := h0.p
    simp only [List.foldl_cons, List.length_cons]
    omega
set_option maxRecDepth 100000 in
set_option maxHeartbeats 4000000 in
theorem pagesOf_spec (A : Option Addr) (m c : Nat) (l : List Rg) (hm : m ≤ 9223372036854775807) (hl : ∀ r ∈ l, r.In) :
    FnC Try.prog 49 [.slice A m c] (fun h => rdS encRg h A m l) (.tuple #[.int .i64 (pagesP l).1, .int .i64 (pagesP l).2]) := by
  refine Ctr.intro Try.func49 rfl rfl (by decide +kernel) fun F hpre => ?_
  have r1 : rdS encRg F.heap A m l := hpre
  have hlen := r1.1
  have gd : checkE l = 0 → m ≤ 1024 ∧ ∀ r ∈ l, r.Ok := fun h => by have := checkE_good h; exact ⟨by omega, this.2⟩
  repeat' (first | (refine XL_id ?_; first | refine XL_nil ?_ | (refine XG_call ?_; first | (refine XL_op tt_ok rfl rfl ?_) | refine XL_fn (check_spec _ _ _ _ (by omega) (by assumption)) rfl rfl (fun g hg _ => rdS.le (by assumption) hg) ?_) | (refine XL_op tt_ok rfl rfl ?_; try (refine XL_dec (fun _ => ?_) (fun _ => ?_)))) | (refine X_id ?_; first | refine X_seq ?_ | (refine X_regionN (by repeat' (exact .nil)) ?_) | refine X_skip ?_ | refine X_ret ?_ | refine X_block ?_ | refine X_cond_t rfl ?_ | refine X_cond_f rfl ?_) | (refine Y_id ?_; first | refine Y_then ?_ | refine Y_then_ret ?_))
  · exact Y_fn2 rfl rfl rfl (by rw [pagesP_1 (by assumption)])
  have gd2 := gd (by omega)
  refine X_loopD2 [13, 14] (fun (i : Nat) (p : Int) => [(15, .int .i64 i), (5, .int .i64 p)]) (fun _ _ => []) (fun i p => i ≤ m ∧ p = (l.take i).foldl (fun s r => s + r.n) 0) (fun i _ => m - i) 0 0 rfl ⟨Nat.zero_le _, rfl⟩ (by (repeat' (first | exact trivial | refine And.intro rfl ?_)); done) (fun _ h => h) ?_
  intro i p hi
  obtain ⟨hi, hp⟩ := hi
  have hs := sum_num (l.take i) 0 fun x hx => gd2.2 x (List.mem_of_mem_take hx)
  rw [← hp, List.length_take] at hs
  by_cases hlt : i < m
  · have okr : (Cof.get l i).Ok := gd2.2 _ (get_mem (by omega) (by omega))
    have q1 := okr.p; have q2 := okr.n; have q3 := okr.e
    repeat' (first | (refine XL_id ?_; first | refine XL_nil ?_ | (refine XG_load ?_; first | refine XL_load tt_ok 0 rfl rfl rfl rfl rfl rfl ?_ | refine XL_elW tt_ok rfl (by assumption) rfl (by omega) (by omega) rfl rfl rfl rfl ?_) | (refine XG_idx ?_; refine XL_idx tt_ok rfl rfl rfl rfl rfl (by assumption) (by omega) (by omega) rfl ?_) | (refine XG_alloc ?_; (refine XL_alloc tt_ok rfl rfl (fun _ => rfl) (fun b => ?_); refine XL_nB (by repeat' (first | exact .nil | apply NL.cons)) ?_)) | (refine XG_store ?_; (refine XL_storeW tt_ok 0 rfl rfl rfl rfl rfl rfl rfl ?_; refine XL_nK 0 rfl (by repeat' (first | exact .nil | apply NL.cons)) ?_)) | (refine XL_op tt_ok rfl rfl ?_; try (first | refine XL_int (wrap_i64 (by omega) (by omega)) ?_ | refine XL_dec_t (by omega) ?_))) | (refine X_id ?_; first | refine X_seq ?_ | (refine X_regionN (by repeat' (first | exact .nil | apply NL.cons)) ?_) | refine X_skip ?_ | refine X_block ?_ | refine X_cond_t rfl ?_) | (refine Y_id ?_; first | refine Y_then ?_ | refine Y_block_normal ?_))
    exact Y_again (i + 1, _) fun _ _ hf hs => ⟨⟨by show i + 1 ≤ m; omega, by rw [take_fold _ _ _ _ (by omega), ← hp]⟩, by show m - (i + 1) < m - i; omega, hf.sub (by (repeat' (first | exact trivial | refine And.intro rfl ?_)); done), trivial_parts hs⟩
  · rw [List.take_of_length_le (by omega)] at hp
    repeat' (first | (refine XL_id ?_; first | refine XL_nil ?_ | (refine XL_op tt_ok rfl rfl ?_; try (refine XL_dec_f (by omega) ?_))) | (refine X_id ?_; first | refine X_seq ?_ | (refine X_regionN (by repeat' (exact .nil)) ?_) | refine X_ret ?_ | refine X_exit ?_ | refine X_cond_f rfl ?_) | (refine Y_id ?_; first | refine Y_then ?_ | refine Y_then_exit ?_ | refine Y_block_hit ?_))
    exact Y_fn2 rfl rfl rfl (by rw [pagesP_2 (by assumption), hp])
def encSp : Enc (Int × Int) := ⟨fun x => [.int .i64 x.1, .int .i64 x.2], 2, fun _ => rfl, by decide, fun x u hu => by simp at hu; rcases hu with rfl | rfl <;> rfl⟩
def spansP (l : List Rg) : List (Int × Int) × Int := if checkE l ≠ 0 then ([], checkE l) else (l.map fun r => (r.p, r.n), 0)
theorem spansP_1 {l : List Rg} (h : ¬ checkE l = 0) : spansP l = ([], checkE l) := if_pos h
theorem spansP_2 {l : List Rg} (h : ¬ ¬ checkE l = 0) : spansP l = (l.map fun r => (r.p, r.n), 0) := if_neg h
set_option maxRecDepth 100000 in
set_option maxHeartbeats 4000000 in
theorem spansOf_spec (A : Option Addr) (m c : Nat) (l : List Rg) (hm : m ≤ 9223372036854775807) (hl : ∀ r ∈ l, r.In) :
    Ctr Try.prog 50 [.slice A m c] (fun h => rdS encRg h A m l) [] (LRes encSp (spansP l).1 (.int .i64 (spansP l).2)) := by
  refine Ctr.intro Try.func50 rfl rfl (by decide +kernel) fun F hpre => ?_
  have r1 : rdS encRg F.heap A m l := hpre
  have hlen := r1.1
  have gd : checkE l = 0 → m ≤ 1024 ∧ ∀ r ∈ l, r.Ok := fun h => by have := checkE_good h; exact ⟨by omega, this.2⟩
  repeat' (first | (refine XL_id ?_; first | refine XL_nil ?_ | (refine XG_call ?_; first | (refine XL_op tt_ok rfl rfl ?_) | refine XL_fn (check_spec _ _ _ _ (by omega) (by assumption)) rfl rfl (fun g hg _ => rdS.le (by assumption) hg) ?_) | (refine XL_op tt_ok rfl rfl ?_; try (refine XL_dec (fun _ => ?_) (fun _ => ?_)))) | (refine X_id ?_; first | refine X_seq ?_ | (refine X_regionN (by repeat' (exact .nil)) ?_) | refine X_skip ?_ | refine X_ret ?_ | refine X_block ?_ | refine X_cond_t rfl ?_ | refine X_cond_f rfl ?_) | (refine Y_id ?_; first | refine Y_then ?_ | refine Y_then_ret ?_))
  · exact Y_ret2 rfl rfl rfl (fin_nil encSp) ⟨⟨none, 0, 0, []⟩, by rw [spansP_1 (by assumption)], rfl, by rw [spansP_1 (by assumption)], rfl⟩
  have gd2 := gd (by omega)
  refine X_loopD2 [13, 14] (fun (i : Nat) (o : Ow (Int × Int)) => [(15, .int .i64 i), (5, o.v)]) (fun _ o => [o.own encSp]) (fun i o => i ≤ m ∧ o.xs = (l.take i).map (fun r => (r.p, r.n)) ∧ o.m = i) (fun i _ => m - i) 0 ⟨none, 0, 0, []⟩ rfl ⟨Nat.zero_le _, rfl, rfl⟩ (by (repeat' (first | exact trivial | refine And.intro rfl ?_)); done) (fun _ h => fin_nil encSp _ h) ?_
  intro i o hi
  obtain ⟨hi, hp, hom⟩ := hi
  by_cases hlt : i < m
  · repeat' (first | (refine XL_id ?_; first | refine XL_nil ?_ | (refine XG_load ?_; first | refine XL_load tt_ok 0 rfl rfl rfl rfl rfl rfl ?_ | refine XL_elW tt_ok rfl (by assumption) rfl (by omega) (by omega) rfl rfl rfl rfl ?_) | (refine XG_idx ?_; refine XL_idx tt_ok rfl rfl rfl rfl rfl (by assumption) (by omega) (by omega) rfl ?_) | (refine XG_build ?_; (refine XL_build tt_ok rfl rfl rfl rfl rfl rfl rfl ?_; refine XL_aggN (by repeat' (first | exact .nil | apply NL.cons)) ?_)) | (refine XG_call ?_; (refine XL_app1 tt_ok 2 0 ((Cof.get l i).p, (Cof.get l i).n) rfl rfl rfl rfl rfl rfl rfl rfl rfl rfl rfl (by show (_ : Nat) * 16 ≤ _; omega) (by omega) (fun _ _ => rfl) (fun A2 c2 => ?_))) | (refine XG_alloc ?_; (refine XL_alloc tt_ok rfl rfl (fun _ => rfl) (fun b => ?_); refine XL_nB (by repeat' (first | exact .nil | apply NL.cons)) ?_)) | (refine XG_lit ?_; (refine XL_lit tt_ok rfl rfl rfl rfl rfl rfl rfl rfl rfl (fun _ => rfl) (fun b => ?_); refine XL_nB (by repeat' (first | exact .nil | apply NL.cons)) ?_)) | (refine XG_store ?_; (refine XL_storeW tt_ok 0 rfl rfl rfl rfl rfl rfl rfl ?_; refine XL_nK 0 rfl (by repeat' (first | exact .nil | apply NL.cons)) ?_)) | (refine XL_op tt_ok rfl rfl ?_; try (first | refine XL_int (wrap_i64 (by omega) (by omega)) ?_ | refine XL_dec_t (by omega) ?_))) | (refine X_id ?_; first | refine X_seq ?_ | (refine X_regionN (by repeat' (first | exact .nil | apply NL.cons)) ?_) | refine X_skip ?_ | refine X_block ?_ | refine X_cond_t rfl ?_) | (refine Y_id ?_; first | refine Y_then ?_ | refine Y_block_normal ?_))
    exact Y_again (i + 1, ⟨A2, _, c2, _⟩) fun _ _ hf hs => ⟨⟨by show i + 1 ≤ m; omega, by rw [hp, take_snoc _ _ (by omega), List.map_append]; rfl, by rw [hom]⟩, by show m - (i + 1) < m - i; omega, hf.sub (by (repeat' (first | exact trivial | refine And.intro rfl ?_)); done), hs.imp fun h hs => stars_only [2] rfl h hs⟩
  · rw [List.take_of_length_le (by omega)] at hp
    repeat' (first | (refine XL_id ?_; first | refine XL_nil ?_ | (refine XL_op tt_ok rfl rfl ?_; try (refine XL_dec_f (by omega) ?_))) | (refine X_id ?_; first | refine X_seq ?_ | (refine X_regionN (by repeat' (first | exact .nil | apply NL.cons)) ?_) | refine X_ret ?_ | refine X_exit ?_ | refine X_cond_f rfl ?_) | (refine Y_id ?_; first | refine Y_then ?_ | refine Y_then_exit ?_ | refine Y_block_hit ?_))
    exact Y_ret2 rfl rfl rfl (stars_only [0] rfl) ⟨o, by rw [spansP_2 (by assumption), hp], by rw [hp, List.length_map]; omega, by rw [spansP_2 (by assumption)], rfl⟩
end Go.Proofs.Ytalkcemelegohaa.Vm
