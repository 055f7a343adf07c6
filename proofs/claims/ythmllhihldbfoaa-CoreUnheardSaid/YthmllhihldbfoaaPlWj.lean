/- Check: the program's. -/
import Derived.Test.YthmllhihldbfoaaPlWi
set_option linter.unusedVariables false
namespace Go.Proofs.Ythmllhihldbfoaa.Pl
open Go.RowKit Go.Cof

structure Fl where
  e : Int
  a : Int
deriving DecidableEq
instance : Inhabited Fl := ⟨⟨0, 0⟩⟩
def encFl : Enc Fl := ⟨fun x => [iV x.e, iV x.a], 2, fun _ => rfl, by decide, fun x u hu => by simp at hu; rcases hu with rfl | rfl <;> rfl⟩
def nt (b : Bool) (e a : Int) (l : List Fl) : List Fl := if b then l else l ++ [⟨e, a⟩]
theorem nt_len (b : Bool) (e a : Int) (l : List Fl) : (nt b e a l).length ≤ l.length + 1 := by
  unfold nt
  split
  · omega
  · simp
def partsF (d : Cd) : Nat → List Fl
  | 0 => nt (decide (TurP d)) 112 3 (nt (decide (SliP d)) 113 2 (nt (decide (CostP d.cs)) 100 1 (nt (decide (MachP d)) 114 0 [])))
  | n + 1 => nt (decide (partE d n = 0)) (partE d n) (4 + n) (partsF d n)
theorem partsF_len (d : Cd) : ∀ n, (partsF d n).length ≤ n + 4
  | 0 => by
    unfold partsF
    have h1 := nt_len (decide (MachP d)) 114 0 []
    have h2 := nt_len (decide (CostP d.cs)) 100 1 (nt (decide (MachP d)) 114 0 [])
    have h3 := nt_len (decide (SliP d)) 113 2 (nt (decide (CostP d.cs)) 100 1 (nt (decide (MachP d)) 114 0 []))
    have h4 := nt_len (decide (TurP d)) 112 3 (nt (decide (SliP d)) 113 2 (nt (decide (CostP d.cs)) 100 1 (nt (decide (MachP d)) 114 0 [])))
    simp at h1
    omega
  | n + 1 => by
    have h1 := partsF_len d n
    have h2 := nt_len (decide (partE d n = 0)) (partE d n) (4 + n) (partsF d n)
    unfold partsF
    omega
def chkF (d : Cd) : List Fl := partsF d (min d.ps.length 8)
abbrev outB (p : Nat) (A : Option Addr) (m c : Nat) : HProp := blk p [.slice A m c] 73
def isOut (p : Nat) (l : List Fl) : HProp := fun g => ∃ x : Option Addr × Nat, True ∧ stars [outB p x.1 l.length x.2, own encFl x.1 l.length x.2 l] g
theorem isOut_mk {p : Nat} {A : Option Addr} {m c : Nat} {l l' : List Fl} (hl : l = l') (hm : m = l'.length) : ∀ g, stars [outB p A m c, own encFl A m c l] g → isOut p l' g := fun g hs => by
  subst hl hm
  exact ⟨(A, c), trivial, hs⟩
set_option maxHeartbeats 4000000 in
theorem note_spec (p : Nat) (l : List Fl) (b : Bool) (e a : Int) (hl : l.length ≤ 100) : Ctr Try.prog 38 [bV b, iV e, iV a, ptr p] (fun _ => True) [isOut p l] (fun v L => v = .tuple #[] ∧ L = [isOut p (nt b e a l)]) := by
  cases b with
  | true =>
    refine Ctr.intro Try.func38 rfl rfl (by decide +kernel) fun F hpre => ?_
    repeat' (first | (refine XL_id ?_; first | refine XL_nil ?_ | (refine XL_op tt_ok rfl rfl ?_; try (refine XL_dec_t (by omega) ?_))) | (refine X_id ?_; first | refine X_seq ?_ | (refine X_regionN (by repeat' (first | exact .nil | apply NL.cons)) ?_) | refine X_skip ?_ | refine X_cond_f rfl ?_) | (refine Y_id ?_; refine Y_then ?_))
    all_goals first
      | exact Y_end0 rfl (fun _ h => h) ⟨rfl, rfl⟩
      | skip
    
  | false =>
    refine Ctr.intro Try.func38 rfl rfl (by decide +kernel) fun F hpre => ?_
    refine X_openp 0 rfl (fun _ h => h) fun x _ => ?_
    obtain ⟨A, c⟩ := x
    dsimp only
    repeat' (first | (refine XL_id ?_; first | refine XL_nil ?_ | (refine XG_load ?_; refine XL_load tt_ok 0 rfl rfl rfl rfl rfl rfl ?_) | (refine XG_build ?_; (refine XL_build tt_ok rfl rfl rfl rfl rfl rfl rfl ?_; refine XL_aggN (by repeat' (first | exact .nil | apply NL.cons)) ?_)) | (refine XG_call ?_; (refine XL_app1 (E := encFl) tt_ok 2 0 ⟨e, a⟩ rfl rfl rfl rfl rfl rfl rfl rfl rfl rfl rfl (by show (_ : Nat) * 16 ≤ _; omega) (by omega) (fun _ _ => rfl) (fun A2 c2 => ?_))) | (refine XG_lit ?_; (refine XL_lit tt_ok rfl rfl rfl rfl rfl rfl rfl rfl rfl (fun _ => rfl) (fun b => ?_); refine XL_nB (by repeat' (first | exact .nil | apply NL.cons)) ?_)) | (refine XG_store ?_; (refine XL_store tt_ok 1 rfl rfl rfl rfl rfl rfl rfl rfl ?_; refine XL_nK 1 rfl (by repeat' (first | exact .nil | apply NL.cons)) ?_)) | (refine XL_op tt_ok rfl rfl ?_; try (refine XL_dec_t (by omega) ?_))) | (refine X_id ?_; first | refine X_seq ?_ | (refine X_regionN (by repeat' (first | exact .nil | apply NL.cons)) ?_) | refine X_cond_t rfl ?_) | (refine Y_id ?_; refine Y_then ?_))
    all_goals first
      | exact Y_end0 rfl (stars_fin [1, 1] rfl (isOut_mk (l' := nt false e a l) rfl (by simp [nt]))) ⟨rfl, rfl⟩
      | skip
    
theorem isOut_nil {p : Nat} : ∀ g, stars [outB p none 0 0] g → isOut p [] g := fun g hs => ⟨(none, 0), trivial, by
  obtain ⟨g1, g2, d, a, b, hA, hB⟩ := hs
  exact ⟨g1, g2, d, a, b, hA, stars_new (own_nil encFl _) hB⟩⟩
theorem XL_boolE {P : Program} {F : Frz} {n : Nat} {ops : Array Oper} {l : List Oper} {Q : Exit → Act → World → Prop} {e : Env} {L : List HProp} {j : Nat} {b b' : Bool} (h : b = b') (k : XL P F n ops l Q ((j, .bool b') :: e) L) : XL P F n ops l Q ((j, .bool b) :: e) L := h ▸ k
set_option maxHeartbeats 8000000 in
theorem check_spec (d : Cd) (y : Ly) (hd : d.In) (hf : y.Fit) (hl : d.ps.length = y.pm) : Ctr Try.prog 23 [cfV d y] (fun h => CfR h d y) [] (fun v L => ∃ A c, v = .slice A (chkF d).length c ∧ L = [own encFl A (chkF d).length c (chkF d)]) := by
  have hmc := machine_spec d y hd hl
  have hcc := ccheck_spec d.cs hd.cs
  have hsl := sliced_spec d y hd hf hl
  have htu := turned_spec d y hf hl
  have hcap := hf.cap
  obtain ⟨l1, hl1⟩ : ∃ l, nt (decide (MachP d)) 114 0 [] = l := ⟨_, rfl⟩
  obtain ⟨l2, hl2⟩ : ∃ l, nt (decide (CostP d.cs)) 100 1 l1 = l := ⟨_, rfl⟩
  obtain ⟨l3, hl3⟩ : ∃ l, nt (decide (SliP d)) 113 2 l2 = l := ⟨_, rfl⟩
  obtain ⟨l4, hl4⟩ : ∃ l, nt (decide (TurP d)) 112 3 l3 = l := ⟨_, rfl⟩
  have hp0 : partsF d 0 = l4 := by unfold partsF; rw [hl1, hl2, hl3, hl4]
  have hn1 : l1.length ≤ 1 := by rw [← hl1]; exact nt_len _ _ _ []
  have hn2 : l2.length ≤ 2 := by have := nt_len (decide (CostP d.cs)) 100 1 l1; rw [hl2] at this; omega
  have hn3 : l3.length ≤ 3 := by have := nt_len (decide (SliP d)) 113 2 l2; rw [hl3] at this; omega
  have t1 := fun p => note_spec p [] (decide (MachP d)) 114 0 (by decide)
  have t2 := fun p => note_spec p l1 (decide (CostP d.cs)) 100 1 (by omega)
  have t3 := fun p => note_spec p l2 (decide (SliP d)) 113 2 (by omega)
  have t4 := fun p => note_spec p l3 (decide (TurP d)) 112 3 (by omega)
  rw [hl1] at t1
  rw [hl2] at t2
  rw [hl3] at t3
  rw [hl4] at t4
  have hce : decide (costE d.cs = 0) = decide (CostP d.cs) := by
    by_cases h : CostP d.cs
    · rw [costE_ok h, decide_eq_true h]; rfl
    · rw [costE_no h, decide_eq_false h]; rfl
  obtain ⟨m8, hm8⟩ : ∃ m8 : Nat, m8 = min d.ps.length 8 := ⟨_, rfl⟩
  have hmn : (if (8 : Int) < (y.pm : Int) then 8 else (y.pm : Int)) = (m8 : Int) := by split <;> omega
  have hck : chkF d = partsF d m8 := by unfold chkF; rw [hm8]
  refine Ctr.intro Try.func23 rfl rfl (by decide +kernel) fun F hpre => ?_
  have hpre : CfR F.heap d y := hpre
  repeat' (first | (refine XL_id ?_; first | refine XL_nil ?_ | (refine XL_mem (fun h hs => stars_shut isOut_nil (stars_take [0] rfl hs)) ?_; refine XL_callV [0] (t1 _) rfl rfl rfl rfl (fun _ => rfl) (fun _ _ _ => trivial) (fun v L hv => ?_); obtain ⟨rfl, rfl⟩ := hv) | (refine XG_box ?_; (refine XL_box rfl (fun _ => rfl) (fun bx => ?_); refine XL_nB (by repeat' (first | exact .nil | apply NL.cons)) ?_)) | (refine XG_load ?_; first | refine XL_loadW tt_ok 1 rfl rfl rfl rfl rfl rfl ?_ | refine XL_load tt_ok 1 rfl rfl rfl rfl rfl rfl ?_) | (refine XG_call ?_; first | (refine XL_op tt_ok rfl rfl ?_; refine XL_int hmn ?_) | (refine XL_op tt_ok rfl rfl ?_) | refine XL_fn hmc rfl rfl (fun _ _ _ => trivial) ?_ | refine XL_fn hcc rfl rfl (fun _ _ _ => trivial) ?_ | refine XL_fn hsl rfl rfl (fun g hg hL => CfR.le hpre hg) ?_ | refine XL_fn htu rfl rfl (fun g hg hL => CfR.le hpre hg) ?_ | (refine XL_callV [0] (t2 _) rfl rfl rfl rfl (fun _ => rfl) (fun _ _ _ => trivial) (fun v L hv => ?_); obtain ⟨rfl, rfl⟩ := hv) | (refine XL_callV [0] (t3 _) rfl rfl rfl rfl (fun _ => rfl) (fun _ _ _ => trivial) (fun v L hv => ?_); obtain ⟨rfl, rfl⟩ := hv) | (refine XL_callV [0] (t4 _) rfl rfl rfl rfl (fun _ => rfl) (fun _ _ _ => trivial) (fun v L hv => ?_); obtain ⟨rfl, rfl⟩ := hv)) | (refine XG_alloc ?_; (refine XL_alloc tt_ok rfl rfl (fun _ => rfl) (fun b => ?_); refine XL_nB (by repeat' (first | exact .nil | apply NL.cons)) ?_)) | (refine XL_op tt_ok rfl rfl ?_; refine XL_boolE hce ?_) | (refine XL_op tt_ok rfl rfl ?_)) | (refine X_id ?_; first | refine X_cutD (c := .block 0 _) [3] (fun (_ : Unit) => []) (fun _ => [isOut b (chkF d)]) (fun _ => True) rfl (X_block (hold ?_)) (fun _ _ => hold ?_) | refine X_seq ?_ | (refine X_regionN (by repeat' (first | exact .nil | apply NL.cons)) ?_)) | (refine Y_id ?_; refine Y_then ?_))
  · intro _
    refine X_loopD [1, 3, 4, 29] (fun (i : Nat) => [(30, .int .i64 i)]) (fun i => [isOut b (partsF d i), blk bx (cfL d y) 28]) (fun i => i ≤ m8) (fun i => m8 - i) 0 rfl (Nat.zero_le _) (by (repeat' (first | exact trivial | refine And.intro rfl ?_)); done) (fun h hs => by rw [hp0]; exact hs) ?_
    intro i hi
    have hi : i ≤ m8 := hi
    by_cases hlt : i < m8
    · have hpt := part_spec d y hd hf hl i (by omega) (by omega)
      obtain ⟨B, hB⟩ : ∃ B, decide (partE d i = 0) = B := ⟨_, rfl⟩
      have tn := fun p => note_spec p (partsF d i) B (partE d i) (4 + i) (by have := partsF_len d i; omega)
      have hst : nt B (partE d i) (4 + i) (partsF d i) = partsF d (i + 1) := by rw [← hB]; rfl
      rw [hst] at tn
      repeat' (first | (refine XL_id ?_; first | refine XL_nil ?_ | (refine XG_load ?_; refine XL_loadW tt_ok 1 rfl rfl rfl rfl rfl rfl ?_) | (refine XG_call ?_; first | refine XL_fn hpt rfl rfl (fun g hg hL => CfR.le hpre hg) ?_ | (refine XL_callV [0] (tn _) rfl rfl rfl rfl (fun _ => rfl) (fun _ _ _ => trivial) (fun v L hv => ?_); obtain ⟨rfl, rfl⟩ := hv)) | (refine XL_op tt_ok rfl rfl ?_; refine XL_boolE hB ?_) | (refine XL_op tt_ok rfl rfl ?_; try (first | refine XL_int (wrap_i64 (by omega) (by omega)) ?_ | refine XL_dec_t (by omega) ?_))) | (refine X_id ?_; first | refine X_seq ?_ | (refine X_regionN (by repeat' (first | exact .nil | apply NL.cons)) ?_) | refine X_skip ?_ | refine X_block ?_ | refine X_cond_t rfl ?_) | (refine Y_id ?_; first | refine Y_then ?_ | refine Y_block_normal ?_))
      all_goals first
        | exact Y_again (i + 1) fun _ _ hf hs => ⟨hlt, by show m8 - (i + 1) < m8 - i; omega, hf.sub (by (repeat' (first | exact trivial | refine And.intro rfl ?_)); done), hs⟩
        | (exfalso; omega)
        | skip
      
    · obtain rfl : i = m8 := by omega
      repeat' (first | (refine XL_id ?_; first | refine XL_nil ?_ | (refine XL_op tt_ok rfl rfl ?_; try (refine XL_dec_f (by omega) ?_))) | (refine X_id ?_; first | refine X_seq ?_ | (refine X_regionN (by repeat' (first | exact .nil | apply NL.cons)) ?_) | refine X_exit ?_ | refine X_cond_f rfl ?_) | (refine Y_id ?_; first | refine Y_then ?_ | refine Y_then_exit ?_ | refine Y_block_hit ?_))
      all_goals first
        | (rw [hck]; exact Y_again () fun _ _ hf hs => ⟨trivial, hf.sub (by (repeat' (first | exact trivial | refine And.intro rfl ?_)); done), hs.imp fun h hs => stars_only [0] rfl h hs⟩)
        | (exfalso; omega)
        | skip
      
  · intro _
    refine Y_then ?_
    refine X_openp 0 rfl (fun _ h => h) fun x _ => ?_
    obtain ⟨A, c⟩ := x
    dsimp only
    repeat' (first | (refine XL_id ?_; first | refine XL_nil ?_ | (refine XG_load ?_; refine XL_load tt_ok 0 rfl rfl rfl rfl rfl rfl ?_) | (refine XL_op tt_ok rfl rfl ?_)) | (refine X_id ?_; first | refine X_seq ?_ | (refine X_regionN (by repeat' (first | exact .nil | apply NL.cons)) ?_) | refine X_ret ?_) | (refine Y_id ?_; refine Y_then ?_))
    all_goals first
      | exact Y_ret1 rfl rfl (fun h hs => stars_only [1] rfl h hs) ⟨_, _, rfl, rfl⟩
      | skip
    
end Go.Proofs.Ythmllhihldbfoaa.Pl
