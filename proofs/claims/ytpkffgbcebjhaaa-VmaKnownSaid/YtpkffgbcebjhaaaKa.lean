/- The closed law VmaKnown: what its calls come to. -/
import Derived.Test.YtpkffgbcebjhaaaLc
import Derived.Test.YtpkffgbcebjhaaaKm
import Derived.Test.YtpkffgbcebjhaaaSlU
set_option linter.unusedVariables false
namespace Go.Proofs.Ytpkffgbcebjhaaa
open Go.RowKit Go.Cof

def inB (r : Rg) : Bool := decide (-9223372036854775808 ≤ r.p ∧ r.p ≤ 9223372036854775807) && decide (-9223372036854775808 ≤ r.n ∧ r.n ≤ 9223372036854775807) && decide (0 ≤ r.m ∧ r.m < 256)
theorem in_all {l : List Rg} (h : l.all inB = true) : ∀ r ∈ l, r.In := fun r hr => by
  have := List.all_eq_true.1 h r hr
  simp only [inB, Bool.and_eq_true, decide_eq_true_eq] at this
  exact ⟨this.1.1, this.1.2, this.2⟩
theorem kc_0 (q : Nat) : FnC Try.prog 12 [.slice (some ⟨q, 0, none⟩) 2 2] (fun h => rdS encRg h (some ⟨q, 0, none⟩) 2 twoL) (.int .i64 0) := by
  have h := check_spec (some ⟨q, 0, none⟩) 2 2 twoL (by decide) (in_all (by decide +kernel))
  rw [show checkE twoL = 0 from by decide +kernel] at h
  exact h
theorem kc_1 (q : Nat) : FnC Try.prog 12 [.slice (some ⟨q, 0, none⟩) 2 2] (fun h => rdS encRg h (some ⟨q, 0, none⟩) 2 [⟨10, 2, 3⟩, ⟨5, 3, 1⟩]) (.int .i64 2) := by
  have h := check_spec (some ⟨q, 0, none⟩) 2 2 [⟨10, 2, 3⟩, ⟨5, 3, 1⟩] (by decide) (in_all (by decide +kernel))
  rw [show checkE [⟨10, 2, 3⟩, ⟨5, 3, 1⟩] = 2 from by decide +kernel] at h
  exact h
theorem kc_2 (q : Nat) : FnC Try.prog 12 [.slice (some ⟨q, 0, none⟩) 2 2] (fun h => rdS encRg h (some ⟨q, 0, none⟩) 2 [⟨5, 3, 1⟩, ⟨8, 1, 1⟩]) (.int .i64 2) := by
  have h := check_spec (some ⟨q, 0, none⟩) 2 2 [⟨5, 3, 1⟩, ⟨8, 1, 1⟩] (by decide) (in_all (by decide +kernel))
  rw [show checkE [⟨5, 3, 1⟩, ⟨8, 1, 1⟩] = 2 from by decide +kernel] at h
  exact h
theorem kc_3 (q : Nat) : FnC Try.prog 12 [.slice (some ⟨q, 0, none⟩) 2 2] (fun h => rdS encRg h (some ⟨q, 0, none⟩) 2 [⟨5, 3, 1⟩, ⟨8, 1, 0⟩]) (.int .i64 0) := by
  have h := check_spec (some ⟨q, 0, none⟩) 2 2 [⟨5, 3, 1⟩, ⟨8, 1, 0⟩] (by decide) (in_all (by decide +kernel))
  rw [show checkE [⟨5, 3, 1⟩, ⟨8, 1, 0⟩] = 0 from by decide +kernel] at h
  exact h
theorem kc_4 (q : Nat) : FnC Try.prog 12 [.slice (some ⟨q, 0, none⟩) 1 1] (fun h => rdS encRg h (some ⟨q, 0, none⟩) 1 [⟨0, 1, 1⟩]) (.int .i64 2) := by
  have h := check_spec (some ⟨q, 0, none⟩) 1 1 [⟨0, 1, 1⟩] (by decide) (in_all (by decide +kernel))
  rw [show checkE [⟨0, 1, 1⟩] = 2 from by decide +kernel] at h
  exact h
theorem kc_5 (q : Nat) : FnC Try.prog 12 [.slice (some ⟨q, 0, none⟩) 1 1] (fun h => rdS encRg h (some ⟨q, 0, none⟩) 1 [⟨5, 1, 2⟩]) (.int .i64 2) := by
  have h := check_spec (some ⟨q, 0, none⟩) 1 1 [⟨5, 1, 2⟩] (by decide) (in_all (by decide +kernel))
  rw [show checkE [⟨5, 1, 2⟩] = 2 from by decide +kernel] at h
  exact h
theorem kc_6 (q : Nat) : FnC Try.prog 12 [.slice (some ⟨q, 0, none⟩) 1 1] (fun h => rdS encRg h (some ⟨q, 0, none⟩) 1 [⟨5, 0, 1⟩]) (.int .i64 2) := by
  have h := check_spec (some ⟨q, 0, none⟩) 1 1 [⟨5, 0, 1⟩] (by decide) (in_all (by decide +kernel))
  rw [show checkE [⟨5, 0, 1⟩] = 2 from by decide +kernel] at h
  exact h
theorem kc_7 (q : Nat) : FnC Try.prog 12 [.slice (some ⟨q, 0, none⟩) 1 1] (fun h => rdS encRg h (some ⟨q, 0, none⟩) 1 [⟨1, 1048575, 0⟩]) (.int .i64 0) := by
  have h := check_spec (some ⟨q, 0, none⟩) 1 1 [⟨1, 1048575, 0⟩] (by decide) (in_all (by decide +kernel))
  rw [show checkE [⟨1, 1048575, 0⟩] = 0 from by decide +kernel] at h
  exact h
theorem kc_8 (q : Nat) : FnC Try.prog 12 [.slice (some ⟨q, 0, none⟩) 1 1] (fun h => rdS encRg h (some ⟨q, 0, none⟩) 1 [⟨1, 1048576, 0⟩]) (.int .i64 2) := by
  have h := check_spec (some ⟨q, 0, none⟩) 1 1 [⟨1, 1048576, 0⟩] (by decide) (in_all (by decide +kernel))
  rw [show checkE [⟨1, 1048576, 0⟩] = 2 from by decide +kernel] at h
  exact h
theorem kc_9 (q : Nat) : FnC Try.prog 12 [.slice (some ⟨q, 0, none⟩) 1 1] (fun h => rdS encRg h (some ⟨q, 0, none⟩) 1 [⟨9223372036854775807, 9223372036854775807, 0⟩]) (.int .i64 2) := by
  have h := check_spec (some ⟨q, 0, none⟩) 1 1 [⟨9223372036854775807, 9223372036854775807, 0⟩] (by decide) (in_all (by decide +kernel))
  rw [show checkE [⟨9223372036854775807, 9223372036854775807, 0⟩] = 2 from by decide +kernel] at h
  exact h
theorem kc_10 (q : Nat) : FnC Try.prog 12 [.slice (some ⟨q, 0, none⟩) 2 2] (fun h => rdS encRg h (some ⟨q, 0, none⟩) 2 [⟨5, 3, 0⟩, ⟨7, 1, 1⟩]) (.int .i64 2) := by
  have h := check_spec (some ⟨q, 0, none⟩) 2 2 [⟨5, 3, 0⟩, ⟨7, 1, 1⟩] (by decide) (in_all (by decide +kernel))
  rw [show checkE [⟨5, 3, 0⟩, ⟨7, 1, 1⟩] = 2 from by decide +kernel] at h
  exact h
theorem kc_11 (q : Nat) : FnC Try.prog 12 [.slice (some ⟨q, 0, none⟩) 1 1] (fun h => rdS encRg h (some ⟨q, 0, none⟩) 1 [⟨1, 9223372036854775807, 0⟩]) (.int .i64 2) := by
  have h := check_spec (some ⟨q, 0, none⟩) 1 1 [⟨1, 9223372036854775807, 0⟩] (by decide) (in_all (by decide +kernel))
  rw [show checkE [⟨1, 9223372036854775807, 0⟩] = 2 from by decide +kernel] at h
  exact h
theorem kc_nil : FnC Try.prog 12 [.slice none 0 0] (fun _ => True) (.int .i64 0) := by
  have h := check_spec none 0 0 [] (by decide) (fun _ h => by cases h)
  rw [show checkE [] = 0 from by decide +kernel] at h
  exact Ctr.mono h (fun g _ => rdS.nil _ _ _) fun v L hv => ⟨L, hv, fun _ h => h⟩
theorem kp_0 (q c : Nat) (hc : 1024 ≤ c) : Ctr Try.prog 14 [.slice (some ⟨q, 0, none⟩) 1024 c, rgV ⟨9000, 1, 0⟩] (fun h => rdS encRg h (some ⟨q, 0, none⟩) 1024 many4) [] (LRes encRg (putP many4 ⟨9000, 1, 0⟩).1 (.int .i64 3)) := by
  have h := put_spec (some ⟨q, 0, none⟩) 1024 c many4 ⟨9000, 1, 0⟩ (by decide) hc (seqM_in 1024 (by omega)) ⟨by decide, by decide, by decide⟩
  rw [show (putP many4 ⟨9000, 1, 0⟩).2 = 3 from many_put] at h
  exact h
theorem kp_1 (q c : Nat) (hc : 1024 ≤ c) : Ctr Try.prog 14 [.slice (some ⟨q, 0, none⟩) 1024 c, rgV ⟨3, 1, 1⟩] (fun h => rdS encRg h (some ⟨q, 0, none⟩) 1024 many4) [] (LRes encRg (putP many4 ⟨3, 1, 1⟩).1 (.int .i64 0)) := by
  have h := put_spec (some ⟨q, 0, none⟩) 1024 c many4 ⟨3, 1, 1⟩ (by decide) hc (seqM_in 1024 (by omega)) ⟨by decide, by decide, by decide⟩
  rw [show (putP many4 ⟨3, 1, 1⟩).2 = 0 from many_put2] at h
  exact h
theorem kk_0 (q c : Nat) (hc : 1024 ≤ c) : Ctr Try.prog 18 [.slice (some ⟨q, 0, none⟩) 1024 c, spV 1 1] (fun h => rdS encRg h (some ⟨q, 0, none⟩) 1024 many4) [] (LRes encRg (cutP many4 1 1).1 (.int .i64 0)) := by
  have h := cut_spec (some ⟨q, 0, none⟩) 1024 c many4 1 1 (by decide) hc (seqM_in 1024 (by omega)) (by decide)
  rw [show (cutP many4 1 1).2 = 0 from many_cut] at h
  exact h
theorem kr_0 (q c : Nat) (hc : 1024 ≤ c) : Ctr Try.prog 20 [.slice (some ⟨q, 0, none⟩) 1024 c, spV 1 1, .int .u8 3] (fun h => rdS encRg h (some ⟨q, 0, none⟩) 1024 many4) [] (LRes encRg (protP many4 1 1 3).1 (.int .i64 3)) := by
  have h := prot_spec (some ⟨q, 0, none⟩) 1024 c many4 1 1 3 (by decide) hc (seqM_in 1024 (by omega)) (by decide)
  rw [show (protP many4 1 1 3).2 = 3 from many_prot] at h
  exact h
theorem kk_1 (q c : Nat) (hc : 1023 ≤ c) : Ctr Try.prog 18 [.slice (some ⟨q, 0, none⟩) 1023 c, spV 1 2] (fun h => rdS encRg h (some ⟨q, 0, none⟩) 1023 many3) [] (LRes encRg (cutP many3 1 2).1 (.int .i64 0)) := by
  have h := cut_spec (some ⟨q, 0, none⟩) 1023 c many3 1 2 (by decide) hc (seqM_in 1023 (by omega)) (by decide)
  rw [show (cutP many3 1 2).2 = 0 from many_cut3] at h
  exact h
theorem kp_2 (q c : Nat) (hc : 2 ≤ c) : Ctr Try.prog 14 [.slice (some ⟨q, 0, none⟩) 2 c, rgV ⟨7, 1, 1⟩] (fun h => rdS encRg h (some ⟨q, 0, none⟩) 2 twoL) [] (LRes encRg (putP twoL ⟨7, 1, 1⟩).1 (.int .i64 171)) := by
  have h := put_spec (some ⟨q, 0, none⟩) 2 c twoL ⟨7, 1, 1⟩ (by decide) hc (in_all (by decide +kernel)) ⟨by decide, by decide, by decide⟩
  rw [show (putP twoL ⟨7, 1, 1⟩).2 = 171 from by decide +kernel] at h
  exact h
theorem kp_3 (q c : Nat) (hc : 2 ≤ c) : Ctr Try.prog 14 [.slice (some ⟨q, 0, none⟩) 2 c, rgV ⟨8, 0, 1⟩] (fun h => rdS encRg h (some ⟨q, 0, none⟩) 2 twoL) [] (LRes encRg (putP twoL ⟨8, 0, 1⟩).1 (.int .i64 2)) := by
  have h := put_spec (some ⟨q, 0, none⟩) 2 c twoL ⟨8, 0, 1⟩ (by decide) hc (in_all (by decide +kernel)) ⟨by decide, by decide, by decide⟩
  rw [show (putP twoL ⟨8, 0, 1⟩).2 = 2 from by decide +kernel] at h
  exact h
theorem kp_4 (q c : Nat) (hc : 2 ≤ c) : Ctr Try.prog 14 [.slice (some ⟨q, 0, none⟩) 2 c, rgV ⟨8, 1, 4⟩] (fun h => rdS encRg h (some ⟨q, 0, none⟩) 2 twoL) [] (LRes encRg (putP twoL ⟨8, 1, 4⟩).1 (.int .i64 2)) := by
  have h := put_spec (some ⟨q, 0, none⟩) 2 c twoL ⟨8, 1, 4⟩ (by decide) hc (in_all (by decide +kernel)) ⟨by decide, by decide, by decide⟩
  rw [show (putP twoL ⟨8, 1, 4⟩).2 = 2 from by decide +kernel] at h
  exact h
theorem kk_2 (q c : Nat) (hc : 2 ≤ c) : Ctr Try.prog 18 [.slice (some ⟨q, 0, none⟩) 2 c, spV 0 9] (fun h => rdS encRg h (some ⟨q, 0, none⟩) 2 twoL) [] (LRes encRg (cutP twoL 0 9).1 (.int .i64 2)) := by
  have h := cut_spec (some ⟨q, 0, none⟩) 2 c twoL 0 9 (by decide) hc (in_all (by decide +kernel)) (by decide)
  rw [show (cutP twoL 0 9).2 = 2 from by decide +kernel] at h
  exact h
theorem kr_1 (q c : Nat) (hc : 2 ≤ c) : Ctr Try.prog 20 [.slice (some ⟨q, 0, none⟩) 2 c, spV 7 2, .int .u8 1] (fun h => rdS encRg h (some ⟨q, 0, none⟩) 2 twoL) [] (LRes encRg (protP twoL 7 2 1).1 (.int .i64 170)) := by
  have h := prot_spec (some ⟨q, 0, none⟩) 2 c twoL 7 2 1 (by decide) hc (in_all (by decide +kernel)) (by decide)
  rw [show (protP twoL 7 2 1).2 = 170 from by decide +kernel] at h
  exact h
theorem kr_2 (q c : Nat) (hc : 2 ≤ c) : Ctr Try.prog 20 [.slice (some ⟨q, 0, none⟩) 2 c, spV 10 2, .int .u8 2] (fun h => rdS encRg h (some ⟨q, 0, none⟩) 2 twoL) [] (LRes encRg (protP twoL 10 2 2).1 (.int .i64 2)) := by
  have h := prot_spec (some ⟨q, 0, none⟩) 2 c twoL 10 2 2 (by decide) hc (in_all (by decide +kernel)) (by decide)
  rw [show (protP twoL 10 2 2).2 = 2 from by decide +kernel] at h
  exact h
theorem kr_3 (q c : Nat) (hc : 2 ≤ c) : Ctr Try.prog 20 [.slice (some ⟨q, 0, none⟩) 2 c, spV 99 1, .int .u8 2] (fun h => rdS encRg h (some ⟨q, 0, none⟩) 2 twoL) [] (LRes encRg (protP twoL 99 1 2).1 (.int .i64 2)) := by
  have h := prot_spec (some ⟨q, 0, none⟩) 2 c twoL 99 1 2 (by decide) hc (in_all (by decide +kernel)) (by decide)
  rw [show (protP twoL 99 1 2).2 = 2 from by decide +kernel] at h
  exact h
theorem kg_0 (q : Nat) : FnC Try.prog 24 [.slice (some ⟨q, 0, none⟩) 2 2, .int .i64 2, .int .i64 1, .int .i64 100] (fun h => rdS encRg h (some ⟨q, 0, none⟩) 2 twoL) (.tuple #[.int .i64 1, .bool true, .int .i64 0]) := by
  have h := gap_spec (some ⟨q, 0, none⟩) 2 2 twoL 2 1 100 (by decide) (by decide) twoL_in (by decide) (by decide) (by decide)
  rw [show gapP twoL 2 1 100 = (1, true, 0) from by decide +kernel] at h
  exact h
theorem kg_1 (q : Nat) : FnC Try.prog 24 [.slice (some ⟨q, 0, none⟩) 2 2, .int .i64 2, .int .i64 5, .int .i64 10] (fun h => rdS encRg h (some ⟨q, 0, none⟩) 2 twoL) (.tuple #[.int .i64 8, .bool true, .int .i64 0]) := by
  have h := gap_spec (some ⟨q, 0, none⟩) 2 2 twoL 2 5 10 (by decide) (by decide) twoL_in (by decide) (by decide) (by decide)
  rw [show gapP twoL 2 5 10 = (8, true, 0) from by decide +kernel] at h
  exact h
theorem kg_2 (q : Nat) : FnC Try.prog 24 [.slice (some ⟨q, 0, none⟩) 2 2, .int .i64 3, .int .i64 5, .int .i64 10] (fun h => rdS encRg h (some ⟨q, 0, none⟩) 2 twoL) (.tuple #[.int .i64 0, .bool false, .int .i64 0]) := by
  have h := gap_spec (some ⟨q, 0, none⟩) 2 2 twoL 3 5 10 (by decide) (by decide) twoL_in (by decide) (by decide) (by decide)
  rw [show gapP twoL 3 5 10 = (0, false, 0) from by decide +kernel] at h
  exact h
theorem kg_3 (q : Nat) : FnC Try.prog 24 [.slice (some ⟨q, 0, none⟩) 2 2, .int .i64 0, .int .i64 1, .int .i64 9] (fun h => rdS encRg h (some ⟨q, 0, none⟩) 2 twoL) (.tuple #[.int .i64 0, .bool false, .int .i64 2]) := by
  have h := gap_spec (some ⟨q, 0, none⟩) 2 2 twoL 0 1 9 (by decide) (by decide) twoL_in (by decide) (by decide) (by decide)
  rw [show gapP twoL 0 1 9 = (0, false, 2) from by decide +kernel] at h
  exact h
theorem kg_4 (q : Nat) : FnC Try.prog 24 [.slice (some ⟨q, 0, none⟩) 2 2, .int .i64 1, .int .i64 9, .int .i64 8] (fun h => rdS encRg h (some ⟨q, 0, none⟩) 2 twoL) (.tuple #[.int .i64 0, .bool false, .int .i64 2]) := by
  have h := gap_spec (some ⟨q, 0, none⟩) 2 2 twoL 1 9 8 (by decide) (by decide) twoL_in (by decide) (by decide) (by decide)
  rw [show gapP twoL 1 9 8 = (0, false, 2) from by decide +kernel] at h
  exact h
theorem kg_5 (q : Nat) : FnC Try.prog 24 [.slice (some ⟨q, 0, none⟩) 2 2, .int .i64 2, .int .i64 12, .int .i64 13] (fun h => rdS encRg h (some ⟨q, 0, none⟩) 2 twoL) (.tuple #[.int .i64 0, .bool false, .int .i64 0]) := by
  have h := gap_spec (some ⟨q, 0, none⟩) 2 2 twoL 2 12 13 (by decide) (by decide) twoL_in (by decide) (by decide) (by decide)
  rw [show gapP twoL 2 12 13 = (0, false, 0) from by decide +kernel] at h
  exact h
theorem kn_0 : FnC Try.prog 24 [.slice none 0 0, .int .i64 1048576, .int .i64 0, .int .i64 1048576] (fun _ => True) (.tuple #[.int .i64 0, .bool true, .int .i64 0]) := by
  have h := gap_spec none 0 0 [] 1048576 0 1048576 (by decide) (by decide) (fun _ h => by cases h) (by decide) (by decide) (by decide)
  rw [show gapP [] 1048576 0 1048576 = (0, true, 0) from by decide +kernel] at h
  exact Ctr.mono h (fun g _ => rdS.nil _ _ _) fun v L hv => ⟨L, hv, fun _ h => h⟩
theorem kn_1 : FnC Try.prog 24 [.slice none 0 0, .int .i64 5, .int .i64 0, .int .i64 3] (fun _ => True) (.tuple #[.int .i64 0, .bool false, .int .i64 0]) := by
  have h := gap_spec none 0 0 [] 5 0 3 (by decide) (by decide) (fun _ h => by cases h) (by decide) (by decide) (by decide)
  rw [show gapP [] 5 0 3 = (0, false, 0) from by decide +kernel] at h
  exact Ctr.mono h (fun g _ => rdS.nil _ _ _) fun v L hv => ⟨L, hv, fun _ h => h⟩
theorem km_5 (q c : Nat) : FnC Try.prog 12 [.slice (some ⟨q, 0, none⟩) 1025 c] (fun h => rdS encRg h (some ⟨q, 0, none⟩) 1025 many) (.int .i64 3) := by
  have h := check_spec (some ⟨q, 0, none⟩) 1025 c many (by decide) (seqM_in 1025 (by omega))
  rw [c_many] at h
  exact h
theorem km_4 (q c : Nat) : FnC Try.prog 12 [.slice (some ⟨q, 0, none⟩) 1024 c] (fun h => rdS encRg h (some ⟨q, 0, none⟩) 1024 many4) (.int .i64 0) := by
  have h := check_spec (some ⟨q, 0, none⟩) 1024 c many4 (by decide) (seqM_in 1024 (by omega))
  rw [c_4] at h
  exact h
end Go.Proofs.Ytpkffgbcebjhaaa
