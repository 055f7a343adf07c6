/- The closed law DiskKnown, walked. -/
import Derived.Test.YtmegelkbipgjbaaLd
set_option linter.unusedVariables false
namespace Go.Proofs.Ytmegelkbipgjbaa
open Go.RowKit Go.Cof

theorem slots_any (p n : Nat) (s : List (List Int)) : Ctr Try.prog 15 [ptr p] (fun _ => True) [isDk p n s] (fun v L => v = iV n ∧ L = [isDk p n s]) := pslotsO (some p) n s
theorem page_nil : Ctr Try.prog 10 [.slice none 0 0] (fun _ => True) [] (fun v L => ∃ b, v = .slice (some ⟨b, 0, none⟩) 256 256 ∧ L = [own encU (some ⟨b, 0, none⟩) 256 256 (pageF [])]) :=
  (page_spec none 0 0 [] (by decide)).mono (fun g _ => rdS.nil encU g none) fun v L h => ⟨L, h, fun h hh => hh⟩
theorem used_at (p n : Nat) (s : List (List Int)) (ks : List Int) (h : usedF s = ks) : Ctr Try.prog 18 [ptr p] (fun _ => True) [isDk p n s] (fun v L => ∃ A c, v = .slice A ks.length c ∧ L = [own encN A ks.length c ks, isDk p n s]) := by
  subst h; exact pusedO (some p) n s
theorem used1 {pg : List Int} (h : pg ≠ []) : usedF [pg, []] = [0] := by
  show usedTo [pg, []] 2 = [0]
  rw [usedTo, if_pos (show Cof.get [pg, []] ((1 : Nat) : Int) = [] from rfl), usedTo, if_neg (show ¬ Cof.get [pg, []] ((0 : Nat) : Int) = [] from h)]; rfl
set_option maxRecDepth 100000 in
set_option maxHeartbeats 16000000 in
theorem diskKnown_walk : FnC Try.prog 5 [] (fun _ => True) (.bool true) := by
  have hpn := page_nil
  obtain ⟨pg, hpg⟩ : ∃ pg, pageF [] = pg := ⟨_, rfl⟩
  have hpl : pg.length = 256 := by rw [← hpg]; exact pageF_len _
  have hne : pg ≠ [] := fun e => by rw [e] at hpl; cases hpl
  rw [hpg] at hpn
  obtain ⟨B0, hB0⟩ : ∃ B0, List.replicate 1024 ([] : List Int) = B0 := ⟨_, rfl⟩
  have hnew := new_ok 1024 (by decide)
  rw [hB0] at hnew
  obtain ⟨B1, hB1⟩ : ∃ B1, wrS (1024 : Nat) 1023 pg B0 = B1 := ⟨_, rfl⟩
  have hw1 := fun (p b : Nat) => write_spec p 1024 B0 1023 (some ⟨b, 0, none⟩) 256 256 pg (fun _ => ⟨b, rfl⟩)
  rw [hB1, show wrE (1024 : Nat) 1023 pg = 0 from if_pos ⟨by decide, by decide, hpl⟩] at hw1
  have hw2 := fun (p : Nat) (A : Option Addr) (m c : Nat) => write_no p 1024 B1 1024 A m c (by omega)
  have hw3 := fun (p : Nat) (A : Option Addr) (m c : Nat) => write_no p 0 [] 0 A m c (by omega)
  have hw4 := fun (p : Nat) (A : Option Addr) (m c : Nat) => write_no p 2 [[], []] (-1) A m c (by omega)
  have hw5 := fun (p : Nat) (A : Option Addr) (c : Nat) => write_no p 2 [[], []] 0 A 255 c (by omega)
  have hw6 := fun (p : Nat) (A : Option Addr) (c : Nat) => write_no p 2 [[], []] 0 A 257 c (by omega)
  have hw7 := fun (p : Nat) (A : Option Addr) (c : Nat) => write_no p 2 [[], []] 0 A 0 c (by omega)
  have hw8 := fun (p b : Nat) => write_spec p 2 [[], []] 0 (some ⟨b, 0, none⟩) 256 256 pg (fun _ => ⟨b, rfl⟩)
  rw [show wrS (2 : Nat) 0 pg [[], []] = [pg, []] from if_pos ⟨by decide, by decide, hpl⟩, show wrE (2 : Nat) 0 pg = 0 from if_pos ⟨by decide, by decide, hpl⟩] at hw8
  have hr1 := fun (p : Nat) => read_no p 2 [[], []] 2 (by decide)
  have hr2 := fun (p : Nat) => read_no p 2 [[], []] (-1) (by decide)
  rw [show rdE (2 : Nat) 2 [[], []] = 2 from rfl] at hr1
  rw [show rdE (2 : Nat) (-1) [[], []] = 2 from rfl] at hr2
  have hr3 := fun (p : Nat) => read_ok p 2 [pg, []] 0 (by unfold rdE; rw [if_pos (by decide), if_neg (show ¬ Cof.get [pg, []] 0 = [] from hne)])
  have he1 := fun (p : Nat) => erase_spec p 2 [[], []] 2
  rw [show rdE (2 : Nat) 2 [[], []] = 2 from rfl, show erS (2 : Nat) 2 [[], []] = [[], []] from rfl] at he1
  have he2 := fun (p : Nat) => erase_spec p 2 [[], []] 1
  rw [show rdE (2 : Nat) 1 [[], []] = 60 from rfl, show erS (2 : Nat) 1 [[], []] = [[], []] from rfl] at he2
  have hu0 := fun (p : Nat) => used_at p 0 [] [] rfl
  have hu2 := fun (p : Nat) => used_at p 2 [[], []] [] rfl
  have hu3 := fun (p : Nat) => used_at p 2 [pg, []] [0] (used1 hne)
  refine Ctr.intro Try.func5 rfl rfl (by decide +kernel) fun F hpre => ?_
  repeat' (first | (refine XL_id ?_; first | refine XL_nil ?_ | refine XL_guard_yes rfl rfl rfl ?_ | (refine XG_box ?_; (refine XL_box rfl (fun _ => rfl) (fun _ => ?_); refine XL_nB (by repeat' (first | exact .nil | apply NL.cons)) ?_)) | (refine XG_build ?_; (refine XL_build tt_ok rfl rfl rfl rfl rfl rfl rfl ?_; refine XL_aggN (by repeat' (first | exact .nil | apply NL.cons)) ?_)) | (refine XG_make ?_; refine XL_make encU (0 : Int) tt_ok rfl rfl rfl rfl rfl rfl rfl rfl (by decide) (by decide) (by decide) (by decide) (fun _ => rfl) (fun g => ?_)) | (refine XG_call ?_; first | (refine XL_op tt_ok rfl rfl ?_) | refine XL_fn (new_bad (-1) (by decide)) rfl rfl (fun _ _ _ => trivial) ?_ | refine XL_fn (new_bad 1025 (by decide)) rfl rfl (fun _ _ _ => trivial) ?_ | (refine XL_callK [] hnew rfl rfl (fun _ => rfl) (fun _ _ _ => trivial) (fun u L hv => ?_); obtain ⟨pb, rfl, rfl⟩ := hv) | (refine XL_callK [] (new_ok 0 (by decide)) rfl rfl (fun _ => rfl) (fun _ _ _ => trivial) (fun u L hv => ?_); obtain ⟨pe, rfl, rfl⟩ := hv) | (refine XL_callK [] (new_ok 2 (by decide)) rfl rfl (fun _ => rfl) (fun _ _ _ => trivial) (fun u L hv => ?_); obtain ⟨pt, rfl, rfl⟩ := hv) | (refine XL_callK [] hpn rfl rfl (fun _ => rfl) (fun _ _ _ => trivial) (fun u L hv => ?_); obtain ⟨bq, rfl, rfl⟩ := hv) | refine XL_callE [1] (slots_any _ 1024 _) rfl rfl rfl (fun _ _ _ => trivial) ?_ | refine XL_callE [3] (slots_any _ 0 _) rfl rfl rfl (fun _ _ _ => trivial) ?_ | refine XL_callE [1] (hw1 _ _) rfl rfl rfl (fun g hg hL => rd_at 0 rfl hL) ?_ | refine XL_callE [1] (hw2 _ _ _ _) rfl rfl rfl (fun _ _ _ => trivial) ?_ | refine XL_callE [1] (hw3 _ _ _ _) rfl rfl rfl (fun _ _ _ => trivial) ?_ | refine XL_callE [1] (hw4 _ _ _ _) rfl rfl rfl (fun _ _ _ => trivial) ?_ | refine XL_callE [1] (hw5 _ _ _) rfl rfl rfl (fun _ _ _ => trivial) ?_ | refine XL_callE [1] (hw6 _ _ _) rfl rfl rfl (fun _ _ _ => trivial) ?_ | refine XL_callE [0] (hw7 _ _ _) rfl rfl rfl (fun _ _ _ => trivial) ?_ | refine XL_callE [2] (hw8 _ _) rfl rfl rfl (fun g hg hL => rd_at 0 rfl hL) ?_ | refine XL_callE [0] (hr1 _) rfl rfl rfl (fun _ _ _ => trivial) ?_ | refine XL_callE [0] (hr2 _) rfl rfl rfl (fun _ _ _ => trivial) ?_ | (refine XL_callK [0] (hr3 _) rfl rfl (fun _ => rfl) (fun _ _ _ => trivial) (fun u L hv => ?_); obtain ⟨br, rfl, rfl⟩ := hv) | refine XL_callE [0] (he1 _) rfl rfl rfl (fun _ _ _ => trivial) ?_ | refine XL_callE [0] (he2 _) rfl rfl rfl (fun _ _ _ => trivial) ?_ | (refine XL_callK [0] (hu0 _) rfl rfl (fun _ => rfl) (fun _ _ _ => trivial) (fun u L hv => ?_); obtain ⟨Au, cu, rfl, rfl⟩ := hv) | (refine XL_callK [0] (hu2 _) rfl rfl (fun _ => rfl) (fun _ _ _ => trivial) (fun u L hv => ?_); obtain ⟨Au, cu, rfl, rfl⟩ := hv) | (refine XL_callK [1] (hu3 _) rfl rfl (fun _ => rfl) (fun _ _ _ => trivial) (fun u L hv => ?_); obtain ⟨Au, cu, rfl, rfl⟩ := hv) | refine XL_fn (pRead_n _) rfl rfl (fun _ _ _ => trivial) ?_ | refine XL_fn (pWrite_n _ _ _ _) rfl rfl (fun _ _ _ => trivial) ?_ | refine XL_fn (pErase_n _) rfl rfl (fun _ _ _ => trivial) ?_ | refine XL_fn pSlots_n rfl rfl (fun _ _ _ => trivial) ?_ | refine XL_fn pUsed_n rfl rfl (fun _ _ _ => trivial) ?_ | refine XL_fn (pRead_e _ _) rfl rfl (fun g hg hL => blk_at 0 rfl hL) ?_ | refine XL_fn (pWrite_e _ _ _ _ _) rfl rfl (fun g hg hL => blk_at 0 rfl hL) ?_ | refine XL_fn (pErase_e _ _) rfl rfl (fun g hg hL => blk_at 0 rfl hL) ?_ | refine XL_fn (pSlots_e _) rfl rfl (fun g hg hL => blk_at 0 rfl hL) ?_ | refine XL_fn (pUsed_e _) rfl rfl (fun g hg hL => blk_at 0 rfl hL) ?_ | refine XL_fn works_spec rfl rfl (fun _ _ _ => trivial) ?_) | (refine XL_op tt_ok rfl rfl ?_; try (first | (refine XL_int (Eq.trans (wrap_i64 (by omega) (by omega)) (by simp only [Int.reduceAdd, Int.reduceSub, Int.reduceMul, Int.reduceNeg]; rfl)) ?_) | refine XL_dec_t (by omega) ?_ | refine XL_dec_f (by omega) ?_ | refine XL_dec_t (by decide +kernel) ?_))) | (refine X_id ?_; first | (refine X_regionEN (id := 0) [] rfl (by repeat' (exact .nil)) ?_) | (refine X_regionEN (id := 1) [] rfl (by repeat' (exact .nil)) ?_) | (refine X_regionEN (id := 2) [2] rfl (by repeat' (exact .nil)) ?_) | (refine X_regionEN (id := 3) [2, 4] rfl (by repeat' (exact .nil)) ?_) | (refine X_regionEN (id := 4) [2, 4, 5, 6] rfl (by repeat' (first | exact .nil | apply NL.cons)) ?_) | (refine X_regionEN (id := 5) [2, 4, 5, 6, 7, 8] rfl (by repeat' (first | exact .nil | apply NL.cons)) ?_) | (refine X_regionEN (id := 7) [2, 4, 5, 7] rfl (by repeat' (first | exact .nil | apply NL.cons)) ?_) | (refine X_regionEN (id := 8) [9] rfl (by repeat' (first | exact .nil | apply NL.cons)) ?_) | (refine X_regionEN (id := 9) [9, 10] rfl (by repeat' (first | exact .nil | apply NL.cons)) ?_) | (refine X_regionEN (id := 10) [9, 10, 13] rfl (by repeat' (first | exact .nil | apply NL.cons)) ?_) | (refine X_regionEN (id := 11) [9, 10, 13, 15] rfl (by repeat' (first | exact .nil | apply NL.cons)) ?_) | (refine X_regionEN (id := 12) [9, 10, 16] rfl (by repeat' (first | exact .nil | apply NL.cons)) ?_) | (refine X_regionEN (id := 13) [9, 10, 16, 17] rfl (by repeat' (first | exact .nil | apply NL.cons)) ?_) | (refine X_regionEN (id := 14) [9, 10, 16, 17, 19] rfl (by repeat' (first | exact .nil | apply NL.cons)) ?_) | (refine X_regionEN (id := 15) [9, 16, 20] rfl (by repeat' (first | exact .nil | apply NL.cons)) ?_) | (refine X_regionEN (id := 16) [9, 16, 20, 21] rfl (by repeat' (first | exact .nil | apply NL.cons)) ?_) | (refine X_regionEN (id := 17) [9, 16, 20, 21, 22] rfl (by repeat' (first | exact .nil | apply NL.cons)) ?_) | (refine X_regionEN (id := 18) [9, 16, 20, 21, 22, 23] rfl (by repeat' (first | exact .nil | apply NL.cons)) ?_) | (refine X_regionEN (id := 20) [9, 16, 20, 21, 22, 23] rfl (by repeat' (first | exact .nil | apply NL.cons)) ?_) | (refine X_regionEN (id := 21) [9, 16, 20, 21, 22, 23, 25] rfl (by repeat' (first | exact .nil | apply NL.cons)) ?_) | (refine X_regionEN (id := 22) [9, 16, 20, 21, 22, 23] rfl (by repeat' (first | exact .nil | apply NL.cons)) ?_) | (refine X_regionEN (id := 19) [9, 16, 20, 21, 22, 23] rfl (by repeat' (first | exact .nil | apply NL.cons)) ?_) | (refine X_regionEN (id := 23) [9, 16, 20, 22] rfl (by repeat' (first | exact .nil | apply NL.cons)) ?_) | refine X_unroll (c := .seq (.seq (.region 18 _ _) _) _) 2 ?_ | refine X_seq ?_ | refine X_skip ?_ | refine X_ret ?_ | refine X_exit ?_ | refine X_block ?_ | refine X_cond_t rfl ?_ | refine X_cond_f rfl ?_) | (refine Y_id ?_; first | refine Y_unroll ?_ | refine Y_then ?_ | refine Y_then_exit ?_ | refine Y_block_hit ?_ | refine Y_block_normal ?_))
  all_goals first
    | exact Y_fn1 rfl rfl rfl
    | (exfalso; omega)
    | skip
  
end Go.Proofs.Ytmegelkbipgjbaa
