/- Check: the reference's (printed by genre.py). -/
import Derived.Test.YtpokfingnflblaaWj
import Derived.Test.YtpokfingnflblaaRd
set_option linter.unusedVariables false
namespace Go.Proofs.Ytpokfingnflblaa
open Go.RowKit Go.Cof

theorem nt_not {P : Prop} [Decidable P] (e a : Int) (l : List Fl) : nt (decide P) e a l = if decide (¬ P) then l ++ [⟨e, a⟩] else l := by
  unfold nt
  by_cases h : P <;> simp [h]
set_option maxHeartbeats 8000000 in
theorem rcheckC_spec (d : Cd) (y : Ly) (hd : d.In) (hf : y.Fit) (hl : d.ps.length = y.pm) : Ctr Try.prog 10 [cfV d y] (fun h => CfR h d y) [] (fun v L => ∃ A c, v = .slice A (chkF d).length c ∧ L = [own encFl A (chkF d).length c (chkF d)]) := by
  have hmc := rmachine_spec d y hd hl
  have hcc := rcheck_spec d.cs
  have hsl := rslices_spec d y hd hf hl
  have htu := rturns_spec d y hf hl
  have hcap := hf.cap
  have hce : decide (¬ costE d.cs = 0) = decide (¬ CostP d.cs) := by
    by_cases h : CostP d.cs
    · rw [costE_ok h, decide_eq_false (p := ¬ CostP d.cs) (fun hh => hh h)]; rfl
    · rw [costE_no h, decide_eq_true (p := ¬ CostP d.cs) h]; rfl
  obtain ⟨b1, hb1⟩ : ∃ b, decide (¬ MachP d) = b := ⟨_, rfl⟩
  obtain ⟨b2, hb2⟩ : ∃ b, decide (¬ CostP d.cs) = b := ⟨_, rfl⟩
  obtain ⟨b3, hb3⟩ : ∃ b, decide (¬ SliP d) = b := ⟨_, rfl⟩
  obtain ⟨b4, hb4⟩ : ∃ b, decide (¬ TurP d) = b := ⟨_, rfl⟩
  obtain ⟨l1, hl1⟩ : ∃ l, (if b1 then [] ++ [(⟨114, 0⟩ : Fl)] else []) = l := ⟨_, rfl⟩
  obtain ⟨l2, hl2⟩ : ∃ l, (if b2 then l1 ++ [(⟨100, 1⟩ : Fl)] else l1) = l := ⟨_, rfl⟩
  obtain ⟨l3, hl3⟩ : ∃ l, (if b3 then l2 ++ [(⟨113, 2⟩ : Fl)] else l2) = l := ⟨_, rfl⟩
  obtain ⟨l4, hl4⟩ : ∃ l, (if b4 then l3 ++ [(⟨112, 3⟩ : Fl)] else l3) = l := ⟨_, rfl⟩
  have hp0 : partsF d 0 = l4 := by unfold partsF; rw [nt_not, nt_not, nt_not, nt_not, hb1, hb2, hb3, hb4, hl1, hl2, hl3, hl4]
  rw [hb1] at hmc
  rw [hb2] at hce
  rw [hb3] at hsl
  rw [hb4] at htu
  have hlen := partsF_len d 0
  rw [hp0] at hlen
  have hn1 : l1.length ≤ 1 := by rw [← hl1]; cases b1 <;> simp
  have hn2 : l2.length ≤ 2 := by rw [← hl2]; cases b2 <;> simp <;> omega
  have hn3 : l3.length ≤ 3 := by rw [← hl3]; cases b3 <;> simp <;> omega
  clear hb1 hb2 hb3 hb4
  obtain ⟨m8, hm8⟩ : ∃ m8 : Nat, m8 = min d.ps.length 8 := ⟨_, rfl⟩
  have hck : chkF d = partsF d m8 := by unfold chkF; rw [hm8]
  refine Ctr.intro Try.func10 rfl rfl (by decide +kernel) fun F hpre => ?_
  have hpre : CfR F.heap d y := hpre
  refine X_mem (fun _ hs => stars_new (own_nil encFl _) hs) ?_
  repeat' (first | (refine XL_id ?_; first | refine XL_nil ?_ | (refine XG_box ?_; (refine XL_box rfl (fun _ => rfl) (fun bx => ?_); refine XL_nB (by repeat' (first | exact .nil | apply NL.cons)) ?_)) | (refine XG_load ?_; refine XL_loadW tt_ok 0 rfl rfl rfl rfl rfl rfl ?_) | (refine XG_call ?_; refine XL_fn hmc rfl rfl (fun _ _ _ => trivial) ?_) | (refine XL_op tt_ok rfl rfl ?_)) | (refine X_id ?_; first | refine X_cutD (c := .cond (.tmp 7) _ _) [1] (fun (x : Option Addr × Nat) => [(3, .slice x.1 l1.length x.2)]) (fun x => [blk bx (cfL d y) 28, own encFl x.1 l1.length x.2 l1]) (fun _ => True) rfl (hold ?_) (fun x _ => hold ?_) | refine X_seq ?_ | (refine X_regionN (by repeat' (first | exact .nil | apply NL.cons)) ?_)) | (refine Y_id ?_; refine Y_then ?_))
  · intro _
    cases b1 with
    | true =>
      replace hl1 := (if_pos rfl).symm.trans hl1
      subst hl1
      repeat' (first | (refine XL_id ?_; first | refine XL_nil ?_ | (refine XG_build ?_; (refine XL_build tt_ok rfl rfl rfl rfl rfl rfl rfl ?_; refine XL_aggN (by repeat' (first | exact .nil | apply NL.cons)) ?_)) | (refine XG_call ?_; (refine XL_app1 (E := encFl) tt_ok 2 0 (⟨114, 0⟩) rfl rfl rfl rfl rfl rfl rfl rfl rfl rfl rfl (by show (_ : Nat) * 16 ≤ _; omega) (by omega) (fun _ _ => rfl) (fun A2 c2 => ?_))) | (refine XG_lit ?_; (refine XL_lit tt_ok rfl rfl rfl rfl rfl rfl rfl rfl rfl (fun _ => rfl) (fun b => ?_); refine XL_nB (by repeat' (first | exact .nil | apply NL.cons)) ?_)) | (refine XL_op tt_ok rfl rfl ?_)) | (refine X_id ?_; first | (refine X_regionN (by repeat' (first | exact .nil | apply NL.cons)) ?_) | refine X_cond_t rfl ?_))
      all_goals first
        | (exact Y_again (_, _) fun _ _ hf hs => ⟨trivial, hf.sub (by (repeat' (first | exact trivial | refine And.intro rfl ?_)); done), hs.imp fun h hs => stars_only [1, 1] rfl h hs⟩)
        | skip
      
    | false =>
      replace hl1 := (if_neg Bool.false_ne_true).symm.trans hl1
      subst hl1
      repeat' ((refine X_id ?_; first | refine X_skip ?_ | refine X_cond_f rfl ?_))
      all_goals first
        | exact Y_again (_, _) fun _ _ hf hs => ⟨trivial, hf.sub (by (repeat' (first | exact trivial | refine And.intro rfl ?_)); done), hs⟩
        | skip
      
  intro _
  refine Y_then ?_
  repeat' (first | (refine XL_id ?_; first | refine XL_nil ?_ | (refine XG_load ?_; refine XL_load tt_ok 0 rfl rfl rfl rfl rfl rfl ?_) | (refine XG_call ?_; refine XL_fn hcc rfl rfl (fun _ _ _ => trivial) ?_) | (refine XL_op tt_ok rfl rfl ?_; refine XL_boolE hce ?_) | (refine XL_op tt_ok rfl rfl ?_)) | (refine X_id ?_; first | refine X_cutD (c := .cond (.tmp 15) _ _) [1] (fun (x : Option Addr × Nat) => [(3, .slice x.1 l2.length x.2)]) (fun x => [blk bx (cfL d y) 28, own encFl x.1 l2.length x.2 l2]) (fun _ => True) rfl (hold ?_) (fun x _ => hold ?_) | refine X_seq ?_ | (refine X_regionN (by repeat' (first | exact .nil | apply NL.cons)) ?_)) | (refine Y_id ?_; refine Y_then ?_))
  · intro _
    cases b2 with
    | true =>
      replace hl2 := (if_pos rfl).symm.trans hl2
      have hq : l1.length + 1 = l2.length := by rw [← hl2]; simp
      repeat' (first | (refine XL_id ?_; first | refine XL_nil ?_ | (refine XG_build ?_; (refine XL_build tt_ok rfl rfl rfl rfl rfl rfl rfl ?_; refine XL_aggN (by repeat' (first | exact .nil | apply NL.cons)) ?_)) | (refine XG_call ?_; (refine XL_app1 (E := encFl) tt_ok 2 0 (⟨100, 1⟩) rfl rfl rfl rfl rfl rfl rfl rfl rfl rfl rfl (by show (_ : Nat) * 16 ≤ _; omega) (by omega) (fun _ _ => rfl) (fun A2 c2 => ?_))) | (refine XG_lit ?_; (refine XL_lit tt_ok rfl rfl rfl rfl rfl rfl rfl rfl rfl (fun _ => rfl) (fun b => ?_); refine XL_nB (by repeat' (first | exact .nil | apply NL.cons)) ?_)) | (refine XL_op tt_ok rfl rfl ?_)) | (refine X_id ?_; first | (refine X_regionN (by repeat' (first | exact .nil | apply NL.cons)) ?_) | refine X_cond_t rfl ?_))
      all_goals first
        | (rw [hl2, hq]; exact Y_again (_, _) fun _ _ hf hs => ⟨trivial, hf.sub (by (repeat' (first | exact trivial | refine And.intro rfl ?_)); done), hs.imp fun h hs => stars_only [1, 1] rfl h hs⟩)
        | skip
      
    | false =>
      replace hl2 := (if_neg Bool.false_ne_true).symm.trans hl2
      subst hl2
      repeat' ((refine X_id ?_; first | refine X_skip ?_ | refine X_cond_f rfl ?_))
      all_goals first
        | exact Y_again (_, _) fun _ _ hf hs => ⟨trivial, hf.sub (by (repeat' (first | exact trivial | refine And.intro rfl ?_)); done), hs⟩
        | skip
      
  intro _
  refine Y_then ?_
  repeat' (first | (refine XL_id ?_; first | refine XL_nil ?_ | (refine XG_load ?_; refine XL_loadW tt_ok 0 rfl rfl rfl rfl rfl rfl ?_) | (refine XG_call ?_; refine XL_fn hsl rfl rfl (fun g hg hL => CfR.le hpre hg) ?_)) | (refine X_id ?_; first | refine X_cutD (c := .cond (.tmp 21) _ _) [1] (fun (x : Option Addr × Nat) => [(3, .slice x.1 l3.length x.2)]) (fun x => [blk bx (cfL d y) 28, own encFl x.1 l3.length x.2 l3]) (fun _ => True) rfl (hold ?_) (fun x _ => hold ?_) | refine X_seq ?_ | (refine X_regionN (by repeat' (first | exact .nil | apply NL.cons)) ?_)) | (refine Y_id ?_; refine Y_then ?_))
  · intro _
    cases b3 with
    | true =>
      replace hl3 := (if_pos rfl).symm.trans hl3
      have hq : l2.length + 1 = l3.length := by rw [← hl3]; simp
      repeat' (first | (refine XL_id ?_; first | refine XL_nil ?_ | (refine XG_build ?_; (refine XL_build tt_ok rfl rfl rfl rfl rfl rfl rfl ?_; refine XL_aggN (by repeat' (first | exact .nil | apply NL.cons)) ?_)) | (refine XG_call ?_; (refine XL_app1 (E := encFl) tt_ok 2 0 (⟨113, 2⟩) rfl rfl rfl rfl rfl rfl rfl rfl rfl rfl rfl (by show (_ : Nat) * 16 ≤ _; omega) (by omega) (fun _ _ => rfl) (fun A2 c2 => ?_))) | (refine XG_lit ?_; (refine XL_lit tt_ok rfl rfl rfl rfl rfl rfl rfl rfl rfl (fun _ => rfl) (fun b => ?_); refine XL_nB (by repeat' (first | exact .nil | apply NL.cons)) ?_)) | (refine XL_op tt_ok rfl rfl ?_)) | (refine X_id ?_; first | (refine X_regionN (by repeat' (first | exact .nil | apply NL.cons)) ?_) | refine X_cond_t rfl ?_))
      all_goals first
        | (rw [hl3, hq]; exact Y_again (_, _) fun _ _ hf hs => ⟨trivial, hf.sub (by (repeat' (first | exact trivial | refine And.intro rfl ?_)); done), hs.imp fun h hs => stars_only [1, 1] rfl h hs⟩)
        | skip
      
    | false =>
      replace hl3 := (if_neg Bool.false_ne_true).symm.trans hl3
      subst hl3
      repeat' ((refine X_id ?_; first | refine X_skip ?_ | refine X_cond_f rfl ?_))
      all_goals first
        | exact Y_again (_, _) fun _ _ hf hs => ⟨trivial, hf.sub (by (repeat' (first | exact trivial | refine And.intro rfl ?_)); done), hs⟩
        | skip
      
  intro _
  refine Y_then ?_
  repeat' (first | (refine XL_id ?_; first | refine XL_nil ?_ | (refine XG_load ?_; refine XL_loadW tt_ok 0 rfl rfl rfl rfl rfl rfl ?_) | (refine XG_call ?_; refine XL_fn htu rfl rfl (fun g hg hL => CfR.le hpre hg) ?_)) | (refine X_id ?_; first | refine X_cutD (c := .cond (.tmp 27) _ _) [1] (fun (x : Option Addr × Nat) => [(3, .slice x.1 l4.length x.2)]) (fun x => [blk bx (cfL d y) 28, own encFl x.1 l4.length x.2 l4]) (fun _ => True) rfl (hold ?_) (fun x _ => hold ?_) | refine X_seq ?_ | (refine X_regionN (by repeat' (first | exact .nil | apply NL.cons)) ?_)) | (refine Y_id ?_; refine Y_then ?_))
  · intro _
    cases b4 with
    | true =>
      replace hl4 := (if_pos rfl).symm.trans hl4
      have hq : l3.length + 1 = l4.length := by rw [← hl4]; simp
      repeat' (first | (refine XL_id ?_; first | refine XL_nil ?_ | (refine XG_build ?_; (refine XL_build tt_ok rfl rfl rfl rfl rfl rfl rfl ?_; refine XL_aggN (by repeat' (first | exact .nil | apply NL.cons)) ?_)) | (refine XG_call ?_; (refine XL_app1 (E := encFl) tt_ok 2 0 (⟨112, 3⟩) rfl rfl rfl rfl rfl rfl rfl rfl rfl rfl rfl (by show (_ : Nat) * 16 ≤ _; omega) (by omega) (fun _ _ => rfl) (fun A2 c2 => ?_))) | (refine XG_lit ?_; (refine XL_lit tt_ok rfl rfl rfl rfl rfl rfl rfl rfl rfl (fun _ => rfl) (fun b => ?_); refine XL_nB (by repeat' (first | exact .nil | apply NL.cons)) ?_)) | (refine XL_op tt_ok rfl rfl ?_)) | (refine X_id ?_; first | (refine X_regionN (by repeat' (first | exact .nil | apply NL.cons)) ?_) | refine X_cond_t rfl ?_))
      all_goals first
        | (rw [hl4, hq]; exact Y_again (_, _) fun _ _ hf hs => ⟨trivial, hf.sub (by (repeat' (first | exact trivial | refine And.intro rfl ?_)); done), hs.imp fun h hs => stars_only [1, 1] rfl h hs⟩)
        | skip
      
    | false =>
      replace hl4 := (if_neg Bool.false_ne_true).symm.trans hl4
      subst hl4
      repeat' ((refine X_id ?_; first | refine X_skip ?_ | refine X_cond_f rfl ?_))
      all_goals first
        | exact Y_again (_, _) fun _ _ hf hs => ⟨trivial, hf.sub (by (repeat' (first | exact trivial | refine And.intro rfl ?_)); done), hs⟩
        | skip
      
  intro _
  refine Y_then ?_
  repeat' (first | (refine XL_id ?_; first | refine XL_nil ?_ | (refine XL_op tt_ok rfl rfl ?_)) | (refine X_id ?_; first | refine X_cutD (c := .block 0 _) [] (fun (x : Option Addr × Nat) => [(3, .slice x.1 (chkF d).length x.2)]) (fun x => [own encFl x.1 (chkF d).length x.2 (chkF d)]) (fun _ => True) rfl (X_block (hold ?_)) (fun x _ => hold ?_) | refine X_seq ?_ | (refine X_regionN (by repeat' (first | exact .nil | apply NL.cons)) ?_)) | (refine Y_id ?_; refine Y_then ?_))
  · intro _
    refine X_loopD2 [1] (fun (i : Nat) (x : Option Addr × Nat) => [(4, .int .i64 i), (3, .slice x.1 (partsF d i).length x.2)]) (fun i x => [blk bx (cfL d y) 28, own encFl x.1 (partsF d i).length x.2 (partsF d i)]) (fun i _ => i ≤ m8) (fun i _ => m8 - i) 0 x rfl (Nat.zero_le _) (by rw [hp0]; exact (by (repeat' (first | exact trivial | refine And.intro rfl ?_)); done)) (fun h hs => by rw [hp0]; exact hs) ?_
    intro i x hi
    have hi : i ≤ m8 := hi
    have hln := partsF_len d i
    by_cases hlt : i < m8
    · have hpt := rpart_spec d y hd hf hl i (by omega) (by omega)
      by_cases hz : partE d i = 0
      · have hst : partsF d i = partsF d (i + 1) := by
          show _ = nt _ _ _ _
          unfold nt
          rw [if_pos (decide_eq_true hz)]
        repeat' (first | (refine XL_id ?_; first | refine XL_nil ?_ | refine XL_guard_yes rfl rfl rfl ?_ | (refine XG_load ?_; first | refine XL_loadW tt_ok 0 rfl rfl rfl rfl rfl rfl ?_ | refine XL_load tt_ok 0 rfl rfl rfl rfl rfl rfl ?_) | (refine XG_call ?_; first | (refine XL_op tt_ok rfl rfl ?_) | refine XL_fn hpt rfl rfl (fun g hg hL => CfR.le hpre hg) ?_) | (refine XL_op tt_ok rfl rfl ?_; try (first | refine XL_int (wrap_i64 (by omega) (by omega)) ?_ | refine XL_dec_t (by omega) ?_ | refine XL_dec_f (by omega) ?_))) | (refine X_id ?_; first | refine X_seq ?_ | (refine X_regionN (by repeat' (first | exact .nil | apply NL.cons)) ?_) | refine X_skip ?_ | refine X_block ?_ | refine X_cond_t rfl ?_ | refine X_cond_f rfl ?_) | (refine Y_id ?_; first | refine Y_then ?_ | refine Y_block_normal ?_))
        all_goals first
          | (rw [hst]; exact Y_again (i + 1, x) fun _ _ hf hs => ⟨hlt, by show m8 - (i + 1) < m8 - i; omega, hf.sub (by (repeat' (first | exact trivial | refine And.intro rfl ?_)); done), hs⟩)
          | (exfalso; omega)
          | skip
        
      · have hst : partsF d i ++ [(⟨partE d i, 4 + i⟩ : Fl)] = partsF d (i + 1) := by
          show _ = nt _ _ _ _
          unfold nt
          rw [decide_eq_false hz]
          rfl
        have hst2 : (partsF d i).length + 1 = (partsF d (i + 1)).length := by rw [← hst]; simp
        repeat' (first | (refine XL_id ?_; first | refine XL_nil ?_ | refine XL_guard_yes rfl rfl rfl ?_ | (refine XG_load ?_; first | refine XL_loadW tt_ok 0 rfl rfl rfl rfl rfl rfl ?_ | refine XL_load tt_ok 0 rfl rfl rfl rfl rfl rfl ?_) | (refine XG_build ?_; (refine XL_build tt_ok rfl rfl rfl rfl rfl rfl rfl ?_; refine XL_aggN (by repeat' (first | exact .nil | apply NL.cons)) ?_)) | (refine XG_call ?_; first | (refine XL_op tt_ok rfl rfl ?_) | refine XL_fn hpt rfl rfl (fun g hg hL => CfR.le hpre hg) ?_ | (refine XL_app1 (E := encFl) tt_ok 2 0 (⟨partE d i, 4 + i⟩) rfl rfl rfl rfl rfl rfl rfl rfl rfl rfl rfl (by show (_ : Nat) * 16 ≤ _; omega) (by omega) (fun _ _ => rfl) (fun A2 c2 => ?_))) | (refine XG_lit ?_; (refine XL_lit tt_ok rfl rfl rfl rfl rfl rfl rfl rfl rfl (fun _ => rfl) (fun b => ?_); refine XL_nB (by repeat' (first | exact .nil | apply NL.cons)) ?_)) | (refine XL_op tt_ok rfl rfl ?_; try (first | refine XL_int (wrap_i64 (by omega) (by omega)) ?_ | refine XL_dec_t (by omega) ?_))) | (refine X_id ?_; first | refine X_seq ?_ | (refine X_regionN (by repeat' (first | exact .nil | apply NL.cons)) ?_) | refine X_skip ?_ | refine X_block ?_ | refine X_cond_t rfl ?_) | (refine Y_id ?_; first | refine Y_then ?_ | refine Y_block_normal ?_))
        all_goals first
          | (rw [hst, hst2]; exact Y_again (i + 1, (_, _)) fun _ _ hf hs => ⟨hlt, by show m8 - (i + 1) < m8 - i; omega, hf.sub (by (repeat' (first | exact trivial | refine And.intro rfl ?_)); done), hs.imp fun h hs => stars_only [1, 1] rfl h hs⟩)
          | (exfalso; omega)
          | skip
        
    · obtain rfl : i = m8 := by omega
      repeat' (first | (refine XL_id ?_; first | refine XL_nil ?_ | refine XL_guard_yes rfl rfl rfl ?_ | refine XL_guard_no rfl rfl rfl rfl rfl ?_ | (refine XG_load ?_; refine XL_load tt_ok 0 rfl rfl rfl rfl rfl rfl ?_) | (refine XL_op tt_ok rfl rfl ?_; try (first | refine XL_dec_f (by omega) ?_ | refine XL_dec (fun _ => ?_) (fun _ => ?_)))) | (refine X_id ?_; first | refine X_seq ?_ | (refine X_regionN (by repeat' (first | exact .nil | apply NL.cons)) ?_) | refine X_exit ?_ | refine X_cond_f rfl ?_) | (refine Y_id ?_; first | refine Y_then ?_ | refine Y_then_exit ?_ | refine Y_block_hit ?_))
      all_goals first
        | (rw [hck]; exact Y_again x fun _ _ hf hs => ⟨trivial, hf.sub (by (repeat' (first | exact trivial | refine And.intro rfl ?_)); done), hs.imp fun h hs => stars_only [1] rfl h hs⟩)
        | (exfalso; omega)
        | skip
      
  · intro _
    refine Y_then ?_
    obtain ⟨A, c⟩ := x
    dsimp only
    repeat' (first | (refine XL_id ?_; first | refine XL_nil ?_ | (refine XL_op tt_ok rfl rfl ?_)) | (refine X_id ?_; first | refine X_seq ?_ | (refine X_regionN (by repeat' (first | exact .nil | apply NL.cons)) ?_) | refine X_ret ?_) | (refine Y_id ?_; refine Y_then ?_))
    all_goals first
      | exact Y_ret1 rfl rfl (fun h hs => hs) ⟨_, _, rfl, rfl⟩
      | skip
    
end Go.Proofs.Ytpokfingnflblaa
