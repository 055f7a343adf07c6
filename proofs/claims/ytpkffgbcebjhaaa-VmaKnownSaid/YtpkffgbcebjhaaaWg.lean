/- Walk of changed. -/
import Derived.Test.YtpkffgbcebjhaaaWf
set_option linter.unusedVariables false
namespace Go.Proofs.Ytpkffgbcebjhaaa
open Go.RowKit Go.Cof

theorem headF_yes {l : List Rg} {from_ : Int} {k : Nat} (hk : firstN l from_ = k) (h1 : k < l.length) (h2 : (Cof.get (l.drop k) 0).p < from_) : headF l from_ = [] ++ l.take k ++ [⟨(Cof.get (l.drop k) 0).p, from_ - (Cof.get (l.drop k) 0).p, (Cof.get (l.drop k) 0).m⟩] := by
  have e : Cof.get (l.drop k) 0 = Cof.get l (k : Int) := by unfold Cof.get; simp [List.getD_eq_getElem?_getD]
  rw [e] at h2 ⊢
  unfold headF
  simp only [hk]
  rw [if_pos ⟨h1, h2⟩]
  rfl
theorem headF_no {l : List Rg} {from_ : Int} {k : Nat} (hk : firstN l from_ = k) (h : ¬ k < l.length ∨ ¬ (Cof.get (l.drop k) 0).p < from_) : headF l from_ = [] ++ l.take k := by
  have e : Cof.get (l.drop k) 0 = Cof.get l (k : Int) := by unfold Cof.get; simp [List.getD_eq_getElem?_getD]
  rw [e] at h
  unfold headF
  simp only [hk]
  rw [if_neg fun hc => h.elim (fun h => h hc.1) fun h => h hc.2]
  rfl
set_option maxRecDepth 100000 in
set_option maxHeartbeats 4000000 in
theorem changed_spec (A B : Option Addr) (m c m' c' : Nat) (l ins : List Rg) (from_ to : Int) (hm : m ≤ 1024) (hmc : m ≤ c) (hm' : m' ≤ 1024) (hl : ∀ r ∈ l, r.Ok) (hi' : ∀ r ∈ ins, r.Ok) (h1 : 1 ≤ from_) (h2 : from_ ≤ 1048576) (h3 : from_ ≤ to) (h4 : to ≤ 1048576) :
    Ctr Try.prog 42 [.slice A m c, .int .i64 from_, .int .i64 to, .slice B m' c'] (fun h => rdS encRg h A m l ∧ rdS encRg h B m' ins) [] (fun v L => ∃ o : Ow Rg, o.xs = (changedF l from_ to ins).1 ∧ o.m = o.xs.length ∧ v = .tuple #[o.v, .int .i64 (changedF l from_ to ins).2] ∧ L = [o.own encRg]) := by
  refine Ctr.intro Try.func42 rfl rfl (by decide +kernel) fun F hpre => ?_
  have r1 : rdS encRg F.heap A m l := hpre.1
  have r2 : rdS encRg F.heap B m' ins := hpre.2
  have hlen := r1.1
  have hlen2 := r2.1
  have hk := firstN_le l from_
  generalize hkk : firstN l from_ = k at hk
  have r3 := r1.sub (l := 0) (k := k) (cc := k) (Nat.zero_le _) (by omega) (by omega)
  rw [sbA_zero, Nat.sub_zero, List.drop_zero] at r3
  have ok0 : k < l.length → (Cof.get (l.drop k) 0).Ok := fun h => hl _ (List.mem_of_mem_drop (get_mem (Int.le_refl 0) (by rw [List.length_drop]; omega)))
  have r4 := r1.sub (l := k) (k := m) (cc := c) (by omega) (Nat.le_refl _) hmc
  rw [List.take_of_length_le (by omega)] at r4
  have hf := first_spec A m c l from_ (by omega) hl
  rw [hkk] at hf
  have b0 : 0 ≤ (Cof.get (l.drop k) 0).p ∧ (Cof.get (l.drop k) 0).p ≤ 1048576 := by
    by_cases h : k < l.length
    · have := (ok0 h).p; have := (ok0 h).n; have := (ok0 h).e; omega
    · rw [List.drop_of_length_le (by omega)]; exact ⟨by decide, by decide⟩
  refine X_mem (fun _ hs => stars_new (own_nil encRg _) hs) ?_
  repeat' (first | (refine XL_id ?_; first | refine XL_nil ?_ | refine XL_guard_yes rfl rfl rfl ?_ | refine XL_guard_no rfl rfl rfl rfl rfl ?_ | (refine XG_load ?_; refine XL_elf tt_ok rfl (by assumption) rfl (by omega) (by omega) rfl rfl rfl rfl ?_) | (refine XG_idx ?_; refine XL_idx tt_ok rfl rfl rfl rfl rfl (by assumption) (by omega) (by omega) rfl ?_) | (refine XG_call ?_; first | (refine XL_op tt_ok rfl rfl ?_) | refine XL_fn hf rfl rfl (fun g hg _ => r1.le hg) ?_ | (refine XL_appF tt_ok 0 rfl rfl r3 rfl rfl rfl rfl rfl rfl rfl (by show (_ : Nat) * 24 ≤ _; omega) (by omega) (fun _ _ => rfl) (fun A1 c1 => ?_)) | (refine XL_app1 tt_ok 1 0 (⟨(Cof.get (l.drop k) 0).p, from_ - (Cof.get (l.drop k) 0).p, (Cof.get (l.drop k) 0).m⟩ : Rg) rfl rfl rfl rfl rfl rfl rfl rfl rfl rfl rfl (by show (_ : Nat) * 24 ≤ _; omega) (by omega) (fun _ _ => rfl) (fun A2 c2 => ?_))) | (refine XG_slice ?_; first | refine XL_slice0 tt_ok rfl rfl rfl (.himx (by omega) (by omega) (by omega)) rfl rfl rfl rfl ?_ | refine XL_slice tt_ok rfl rfl rfl rfl (.lo (by omega) (by omega)) rfl rfl rfl rfl ?_) | (refine XG_lit ?_; refine XL_lit tt_ok rfl rfl rfl rfl rfl rfl rfl rfl rfl (fun _ => rfl) (fun b => ?_)) | (refine XL_op tt_ok rfl rfl ?_; try (refine XL_dec (fun _ => ?_) (fun _ => ?_)))) | (refine XD_id ?_; first | (refine XD_thaw thaw ?_; refine XD_nil ?_) | (refine XD_id ?_; (first | (refine XD_uL rfl ?_; refine XD_s rfl rfl rfl (XV_elf tt_ok rfl (rdS.le (by assumption) hFG) rfl (by omega) (by omega) rfl rfl rfl) rfl ?_) | (refine XD_uI rfl ?_; refine XD_s rfl rfl rfl (XV_idx tt_ok rfl rfl rfl rfl rfl (rdS.le (by assumption) hFG) (by omega) (by omega)) rfl ?_) | (refine XD_u rfl rfl ?_; first | refine XD_s rfl rfl rfl (XV_op tt_ok rfl) rfl ?_ | refine XD_s rfl rfl rfl (XV_build tt_ok rfl rfl rfl rfl rfl rfl) rfl ?_)); try (refine XD_int (wrap_i64 (by omega) (by omega)) ?_)) | refine XD_m rfl rfl ?_) | (refine X_id ?_; first | refine X_cutD (c := .seq (.region 6 _ _) _) [1, 2, 3, 11, 13] (fun (j : Ow Rg) => [(10, j.v)]) (fun j => [j.own encRg]) (fun j => j.xs = headF l from_ ∧ j.m = j.xs.length) rfl (X_seq ?_) (fun j hj => ?_) | (refine X_drawS (id := 7) [0, 1, 2, 3, 4, 5, 6, 7, 8, 9, 10, 11, 12, 13, 14, 15, 16, 17, 18] (fun | 16 => .m | 17 => .m | _ => .s) 8 (by repeat' (first | exact Split.nil | apply Split.keep)) mixed (by decide +kernel) ?_; intro G hFG hM thaw; show XD _ _ _ _ _ _ [0, 1, 2, 3, 4, 5, 6, 7, 8, 9, 10, 11, 12, 13, 14, 15, 16, 17, 18] _ _ _) | refine X_seq ?_ | refine X_region ?_ | refine X_skip ?_ | refine X_block ?_ | refine X_cond_t rfl ?_ | refine X_cond_f rfl ?_) | (refine Y_id ?_; first | refine Y_then ?_ | refine Y_m ?_))
  · exact Y_again ⟨A2, _, c2, _⟩ fun _ _ hf hs => ⟨⟨(headF_yes hkk (by omega) (by assumption)).symm, by simp; omega⟩, hf.sub (by (repeat' (first | exact trivial | refine And.intro rfl ?_)); done), hs.imp fun h hs => stars_only [1] rfl h hs⟩
  · exact Y_again ⟨A1, _, c1, _⟩ fun _ _ hf hs => ⟨⟨(headF_no hkk (.inr (by assumption))).symm, by simp; omega⟩, hf.sub (by (repeat' (first | exact trivial | refine And.intro rfl ?_)); done), hs⟩
  · exact Y_again ⟨A1, _, c1, _⟩ fun _ _ hf hs => ⟨⟨(headF_no hkk (.inl (by omega))).symm, by simp; omega⟩, hf.sub (by (repeat' (first | exact trivial | refine And.intro rfl ?_)); done), hs⟩
  obtain ⟨hj1, hj2⟩ := hj
  have okh := headF_ok (from_ := from_) hl
  have lnh := headF_length l from_
  refine X_loopD2 [1, 2, 11, 13, 60, 61] (fun (i : Nat) (o : Ow Rg) => [(62, .int .i64 i), (10, o.v)]) (fun i o => [o.own encRg]) (fun i o => i ≤ m' ∧ o.xs = (ins.take i).foldl addR (headF l from_) ∧ o.m = o.xs.length) (fun i _ => m' - i) 0 j rfl ⟨Nat.zero_le _, hj1, hj2⟩ (by (repeat' (first | exact trivial | refine And.intro rfl ?_)); done) (fun _ h => h) ?_
  intro i o hi
  obtain ⟨hi, ho, hom⟩ := hi
  have okx : ∀ x ∈ o.xs, x.Ok := by rw [ho]; exact fold_ok okh fun x hx => hi' x (List.mem_of_mem_take hx)
  have lnx : o.m ≤ 2100 := by
    have := fold_length (ins.take i) (headF l from_)
    rw [← ho, List.length_take] at this
    omega
  by_cases hlt : i < m'
  · have okr : (Cof.get ins i).Ok := hi' _ (get_mem (by omega) (by omega))
    repeat' (first | (refine XL_id ?_; first | refine XL_nil ?_ | (refine XG_load ?_; first | refine XL_loadW tt_ok 0 rfl rfl rfl rfl rfl rfl ?_ | refine XL_elW tt_ok rfl (by assumption) rfl (by omega) (by omega) rfl rfl rfl rfl ?_) | (refine XG_idx ?_; refine XL_idx tt_ok rfl rfl rfl rfl rfl (by assumption) (by omega) (by omega) rfl ?_) | (refine XG_call ?_; (refine XL_callK [1] (add_ok _ _ _ _ _ (by omega) okx okr) rfl rfl (fun _ => rfl) (fun _ _ _ => trivial) (fun u L hv => ?_); obtain ⟨o', ho1, ho2, rfl, rfl⟩ := hv)) | (refine XG_alloc ?_; refine XL_alloc tt_ok rfl rfl (fun _ => rfl) (fun b => ?_)) | (refine XG_store ?_; refine XL_storeW tt_ok 0 rfl rfl rfl rfl rfl rfl rfl ?_) | (refine XL_op tt_ok rfl rfl ?_; try (first | refine XL_int (wrap_i64 (by omega) (by omega)) ?_ | refine XL_dec_t (by omega) ?_))) | (refine X_id ?_; first | refine X_seq ?_ | refine X_region ?_ | refine X_skip ?_ | refine X_block ?_ | refine X_cond_t rfl ?_) | (refine Y_id ?_; first | refine Y_then ?_ | refine Y_block_normal ?_))
    exact Y_again (i + 1, o') fun _ _ hf hs => ⟨⟨by show i + 1 ≤ m'; omega, by rw [ho1, ho, take_fold _ _ _ _ (by omega)], ho2⟩, by show m' - (i + 1) < m' - i; omega, hf.sub (by (repeat' (first | exact trivial | refine And.intro rfl ?_)); done), hs.imp fun h hs => stars_only [0] rfl h hs⟩
  obtain rfl : i = m' := by omega
  rw [List.take_of_length_le (by omega)] at ho
  repeat' (first | (refine XL_id ?_; first | refine XL_nil ?_ | (refine XG_call ?_; (refine XL_op tt_ok rfl rfl ?_)) | (refine XL_op tt_ok rfl rfl ?_; try (refine XL_dec_f (by omega) ?_))) | (refine X_id ?_; first | (refine X_loopD3 [1, 2, 70, 71] (fun (i : Nat) (o : Ow Rg) (z : Int) => [(72, .int .i64 i), (10, o.v), (11, .int .i64 z)]) (fun i o z => [o.own encRg]) (fun i o z => i ≤ m - k ∧ (o.xs, z) = ((l.drop k).take i).foldl (stepR from_ to) (ins.foldl addR (headF l from_), 0) ∧ o.m = o.xs.length) (fun i _ _ => m - k - i) 0 o 0 rfl ⟨Nat.zero_le _, by rw [ho]; rfl, hom⟩ (by (repeat' (first | exact trivial | refine And.intro rfl ?_)); done) (fun _ h => h) ?_) | refine X_seq ?_ | refine X_region ?_ | refine X_exit ?_ | refine X_block ?_ | refine X_cond_f rfl ?_) | (refine Y_id ?_; first | refine Y_then ?_ | refine Y_then_exit ?_ | refine Y_block_hit ?_))
  intro i o z hi
  obtain ⟨hi, hoz, hom⟩ := hi
  have ho : o.xs = (((l.drop k).take i).foldl (stepR from_ to) (ins.foldl addR (headF l from_), 0)).1 := by rw [← hoz]
  have hz : z = (((l.drop k).take i).foldl (stepR from_ to) (ins.foldl addR (headF l from_), 0)).2 := by rw [← hoz]
  have okx : ∀ x ∈ o.xs, x.Ok := by rw [ho]; exact steps_ok (by omega) (fold_ok okh hi') fun x hx => hl x (List.mem_of_mem_drop (List.mem_of_mem_take hx))
  have lnx : o.m ≤ 4200 := by
    have h1 := fold_length ins (headF l from_)
    have h2 := steps_length from_ to ((l.drop k).take i) (ins.foldl addR (headF l from_), 0)
    rw [← ho, List.length_take] at h2
    simp only at h2
    omega
  have bz : 0 ≤ z ∧ z ≤ 1024 * 1048576 := by
    have h2 := steps_num from_ to (by omega) (by omega) ((l.drop k).take i) (ins.foldl addR (headF l from_), 0)
    rw [← hz, List.length_take] at h2
    simp only at h2
    omega
  by_cases hlt : i < m - k
  · have okr : (Cof.get (l.drop k) i).Ok := hl _ (List.mem_of_mem_drop (get_mem (by omega) (by rw [List.length_drop]; omega)))
    have q1 := okr.p; have q2 := okr.n; have q3 := okr.e
    have ee : (Cof.get (l.drop k) i).end = (Cof.get (l.drop k) i).p + (Cof.get (l.drop k) i).n := rfl
    repeat' (first | (refine XL_id ?_; first | refine XL_nil ?_ | (refine XG_load ?_; first | refine XL_loadW tt_ok 1 rfl rfl rfl rfl rfl rfl ?_ | refine XL_load tt_ok 1 rfl rfl rfl rfl rfl rfl ?_ | refine XL_elW tt_ok rfl (by assumption) rfl (by omega) (by omega) rfl rfl rfl rfl ?_) | (refine XG_idx ?_; refine XL_idx tt_ok rfl rfl rfl rfl rfl (by assumption) (by omega) (by omega) rfl ?_) | (refine XG_call ?_; first | (refine XL_op tt_ok rfl rfl ?_) | refine XL_fn (end_ok _ okr) rfl rfl (fun _ _ _ => trivial) ?_ | (refine XL_callK [0] (add_ok _ _ _ _ _ (by omega) okx (tail_ok okr (by omega) (by omega))) rfl rfl (fun _ => rfl) (fun _ _ _ => trivial) (fun u L hv => ?_); obtain ⟨o', ho1, ho2, rfl, rfl⟩ := hv)) | (refine XG_alloc ?_; refine XL_alloc tt_ok rfl rfl (fun _ => rfl) (fun b => ?_)) | (refine XG_store ?_; refine XL_storeW tt_ok 0 rfl rfl rfl rfl rfl rfl rfl ?_) | (refine XL_op tt_ok rfl rfl ?_; try (first | refine XL_int (wrap_i64 (by omega) (by omega)) ?_ | refine XL_dec_t (by omega) ?_ | refine XL_dec (fun _ => ?_) (fun _ => ?_)))) | (refine XD_id ?_; first | (refine XD_thaw thaw ?_; refine XD_nil ?_) | (refine XD_id ?_; (first | (refine XD_uL rfl ?_; first | refine XD_s rfl rfl rfl (XV_loadW tt_ok rfl (blk_at 0 rfl hM) rfl rfl rfl) rfl ?_ | refine XD_s rfl rfl rfl (XV_load tt_ok rfl (blk_at 0 rfl hM) rfl rfl rfl) rfl ?_) | (refine XD_u rfl rfl ?_; first | refine XD_s rfl rfl rfl (XV_op tt_ok rfl) rfl ?_ | refine XD_s rfl rfl rfl (XV_build tt_ok rfl rfl rfl rfl rfl rfl) rfl ?_)); try (refine XD_int (wrap_i64 (by omega) (by omega)) ?_)) | refine XD_m rfl rfl ?_) | (refine X_id ?_; first | (refine X_drawS (id := 16) [0, 1, 3, 5, 6, 7, 8, 2, 4, 9, 10, 11, 12] (fun | 2 => .m | _ => .s) 8 (by repeat' (first | exact Split.nil | apply Split.blk | apply Split.keep)) mixed (by decide +kernel) ?_; intro G hFG hM thaw; show XD _ _ _ _ _ _ [0, 1, 3, 5, 6, 7, 8, 2, 4, 9, 10, 11, 12] _ _ _) | (refine X_drawS (id := 19) [0, 1, 2, 4, 6, 7, 3, 5, 8, 9, 10] (fun | 3 => .m | 9 => .m | _ => .s) 8 (by repeat' (first | exact Split.nil | apply Split.blk | apply Split.keep)) mixed (by decide +kernel) ?_; intro G hFG hM thaw; show XD _ _ _ _ _ _ [0, 1, 2, 4, 6, 7, 3, 5, 8, 9, 10] _ _ _) | refine X_seq ?_ | refine X_region ?_ | refine X_skip ?_ | refine X_block ?_ | refine X_cond_t rfl ?_ | refine X_cond_f rfl ?_) | (refine Y_id ?_; first | refine Y_then ?_ | refine Y_block_normal ?_ | refine Y_m ?_))
    · exact Y_again (i + 1, o', z + gotR (Cof.get (l.drop k) i) from_ to) fun _ _ hf hs => ⟨⟨by show i + 1 ≤ m - k; omega, by rw [take_fold _ _ _ _ (by rw [List.length_drop]; omega), ← hoz]; refine Prod.ext ?_ ?_; exact ho1.trans (if_pos (by assumption)).symm; exact rfl, ho2⟩, by show m - k - (i + 1) < m - k - i; omega, hf.sub (by (repeat' (first | exact trivial | refine And.intro rfl ?_)); done), hs.imp fun h hs => stars_only [0] rfl h hs⟩
    · exact Y_again (i + 1, o, z + gotR (Cof.get (l.drop k) i) from_ to) fun _ _ hf hs => ⟨⟨by show i + 1 ≤ m - k; omega, by rw [take_fold _ _ _ _ (by rw [List.length_drop]; omega), ← hoz]; refine Prod.ext ?_ ?_; exact (if_neg (by assumption)).symm; exact rfl, hom⟩, by show m - k - (i + 1) < m - k - i; omega, hf.sub (by (repeat' (first | exact trivial | refine And.intro rfl ?_)); done), hs.imp fun h hs => stars_only [0] rfl h hs⟩
  obtain rfl : i = m - k := by omega
  rw [List.take_of_length_le (by rw [List.length_drop]; omega), ← hkk] at ho hz
  repeat' (first | (refine XL_id ?_; first | refine XL_nil ?_ | (refine XL_op tt_ok rfl rfl ?_; try (refine XL_dec_f (by omega) ?_))) | (refine X_id ?_; first | refine X_seq ?_ | refine X_region ?_ | refine X_ret ?_ | refine X_exit ?_ | refine X_cond_f rfl ?_) | (refine Y_id ?_; first | refine Y_then ?_ | refine Y_then_exit ?_ | refine Y_block_hit ?_))
  exact Y_ret2 rfl rfl rfl (stars_only [0] rfl) ⟨o, ho, hom, by rw [hz]; rfl, rfl⟩
end Go.Proofs.Ytpkffgbcebjhaaa
