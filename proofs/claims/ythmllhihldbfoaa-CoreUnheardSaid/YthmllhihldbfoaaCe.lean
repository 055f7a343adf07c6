/- Touch of a list; New. -/
import Derived.Test.YthmllhihldbfoaaCd
set_option linter.unusedVariables false
namespace Go.Proofs.Ythmllhihldbfoaa
open Go.RowKit Go.Cof

structure Th where
  a : Bool
  b : Bool
  x : Co
def stepT (d : Pl.Cd) (t : Th) (pa : Int) : Th := ⟨hit1 d t.x pa, hit2 d t.x pa, oneF d t.x pa⟩
def foldT (d : Pl.Cd) (x : Co) (l : List Int) : Th := l.foldl (stepT d) ⟨false, false, x⟩
theorem cstF_le {x : Pl.Cs} (h : Pl.CostP x) (a b : Bool) : 1 ≤ cstF x a b ∧ cstF x a b ≤ 65536 := by
  obtain ⟨h1, h2, h3, h4, _⟩ := h
  unfold cstF
  split
  · omega
  · split <;> omega
theorem foldT_sp {d : Pl.Cd} (hc : Pl.CostP d.cs) : ∀ (l : List Int) (t : Th), t.x.sp ≤ (l.foldl (stepT d) t).x.sp ∧ (l.foldl (stepT d) t).x.sp ≤ t.x.sp + l.length * 65536
  | [], t => ⟨Int.le_refl _, by simp⟩
  | pa :: l, t => by
    have ih := foldT_sp hc l (stepT d t pa)
    have h1 := cstF_le hc (hit1 d t.x pa) (hit2 d t.x pa)
    have h2 : (stepT d t pa).x.sp = t.x.sp + cstF d.cs (hit1 d t.x pa) (hit2 d t.x pa) := rfl
    rw [h2] at ih
    rw [List.foldl_cons, List.length_cons]
    constructor
    · omega
    · have := ih.2
      rw [Int.natCast_add, Int.add_mul]; omega
theorem foldT_take {d : Pl.Cd} {x : Co} {l : List Int} {i : Nat} (h : i < l.length) : foldT d x (l.take (i + 1)) = stepT d (foldT d x (l.take i)) (Cof.get l (i : Int)) := by
  unfold foldT; rw [take_snoc' _ _ h, List.foldl_append]; rfl
set_option maxRecDepth 100000 in
set_option maxHeartbeats 8000000 in
theorem touch_spec (h : Nat) (d : Pl.Cd) (x : Co) (ts : List Tl.Tr) (A : Option Addr) (m c : Nat) (l : List Int) (hm : Pl.MachP d) (hc : Pl.CostP d.cs) (hl : ∀ pa ∈ l, 0 ≤ pa ∧ pa < d.fr * 256) (hs0 : 0 ≤ x.sp) (hs1 : x.sp + m * 65536 ≤ 9223372036854775807) (hm0 : m ≤ 9223372036854775807) :
    Ctr Try.prog 8 [ptr h, .slice A m c] (fun g => rdS encW g A m l) [isCo h d x ts] (fun v L => v = .tuple #[.agg #[.bool (foldT d x l).a, .bool (foldT d x l).b], iV 0] ∧ L = [isCo h d (foldT d x l).x ts]) := by
  refine Ctr.intro Try.func8 rfl rfl (by decide +kernel) fun F hpre => ?_
  have r1 : rdS encW F.heap A m l := hpre
  have hlen := r1.1
  have hfr := hm.fr
  refine X_openp (φ := fun _ => True) 0 rfl (fun _ ⟨y, hh⟩ => ⟨y, trivial, hh⟩) fun y _ => ?_
  repeat' (first | (refine XL_id ?_; first | refine XL_nil ?_ | (refine XG_alloc ?_; (refine XL_alloc tt_ok rfl rfl (fun _ => rfl) (fun ba => ?_); refine XL_nB (by repeat' (first | exact .nil | apply NL.cons)) ?_)) | (refine XG_call ?_; first | (refine XL_op tt_ok rfl rfl ?_) | refine XL_fn (conone_spec h d y _) rfl rfl (fun g hg hL => blk_at 1 rfl hL) ?_) | (refine XL_op tt_ok rfl rfl ?_)) | (refine X_id ?_; first | refine X_block (id := 0) (hold ?_) | refine X_seq ?_ | (refine X_regionN (by repeat' (first | exact .nil | apply NL.cons)) ?_) | refine X_skip ?_ | refine X_cond_f rfl ?_) | (refine Y_id ?_; refine Y_then ?_))
  intro _
  refine X_loopD [0, 1, 4, 14, 15] (fun (i : Nat) => [(16, .int .i64 i)]) (fun _ => [blk ba [.bool false, .bool false] 37, coB h d y x.sp, isCa y.p1 d.ls.toNat d.lw.toNat x.s1, isCa y.p2 (d.co * 16).toNat d.wa.toNat x.s2, Tl.isTlb y.pt d.tl ts]) (fun i => i ≤ m) (fun i => m - i) 0 rfl (Nat.zero_le _) (by (repeat' (first | exact trivial | refine And.intro rfl ?_)); done) (fun h hs => hs) ?_
  intro i hi
  replace hi : i ≤ m := hi
  by_cases hlt : i < m
  · have hr := hl _ (get_mem' (l := l) (i := (i : Int)) (by omega) (by omega))
    repeat' (first | (refine XL_id ?_; first | refine XL_nil ?_ | (refine XG_load ?_; first | refine XL_load tt_ok 1 rfl rfl rfl rfl rfl rfl ?_ | refine XL_el tt_ok rfl (by assumption) rfl (by omega) (by omega) rfl rfl rfl rfl ?_) | (refine XG_idx ?_; refine XL_idx tt_ok rfl rfl rfl rfl rfl (by assumption) (by omega) (by omega) rfl ?_) | (refine XL_op tt_ok rfl rfl ?_; try (first | refine XL_int (wrap_i64 (by omega) (by omega)) ?_ | refine XL_dec_t (by omega) ?_ | refine XL_dec_f (by omega) ?_))) | (refine X_id ?_; first | refine X_seq ?_ | (refine X_regionN (by repeat' (first | exact .nil | apply NL.cons)) ?_) | refine X_skip ?_ | refine X_block ?_ | refine X_cond_t rfl ?_ | refine X_cond_f rfl ?_) | (refine Y_id ?_; first | refine Y_then ?_ | refine Y_block_normal ?_))
    all_goals first
      | exact Y_again (i + 1) fun _ _ hf hs => ⟨hlt, by show m - (i + 1) < m - i; omega, hf.sub (by (repeat' (first | exact trivial | refine And.intro rfl ?_)); done), hs⟩
      | (exfalso; omega)
      | skip
    
  · refine X_mem (M := [blk ba [.bool false, .bool false] 37, isCo h d x ts]) (fun g hg => stars_take [1, 0] rfl (stars_shut (A := isCo h d x ts) (fun g hg => ⟨y, hg⟩) (stars_take [1, 1, 1, 1] rfl hg))) ?_
    repeat' (first | (refine XL_id ?_; first | refine XL_nil ?_ | (refine XG_alloc ?_; (refine XL_alloc tt_ok rfl rfl (fun _ => rfl) (fun bb => ?_); refine XL_nB (by repeat' (first | exact .nil | apply NL.cons)) ?_)) | (refine XL_op tt_ok rfl rfl ?_; try (refine XL_dec_f (by omega) ?_))) | (refine X_id ?_; first | refine X_block (id := 2) (hold ?_) | refine X_seq ?_ | (refine X_regionN (by repeat' (first | exact .nil | apply NL.cons)) ?_) | refine X_exit ?_ | refine X_cond_f rfl ?_) | (refine Y_id ?_; first | refine Y_then ?_ | refine Y_then_exit ?_ | refine Y_block_hit ?_))
    all_goals first
      | (exfalso; omega)
      | skip
    intro _
    refine X_loopD [0, 4, 8, 28, 29] (fun (i : Nat) => [(30, .int .i64 i)]) (fun i => [blk bb [.bool (foldT d x (l.take i)).a, .bool (foldT d x (l.take i)).b] 37, blk ba [.bool false, .bool false] 37, isCo h d (foldT d x (l.take i)).x ts]) (fun i => i ≤ m) (fun i => m - i) 0 rfl (Nat.zero_le _) (by (repeat' (first | exact trivial | refine And.intro rfl ?_)); done) (fun h hs => hs) ?_
    intro i hi
    replace hi : i ≤ m := hi
    by_cases hlt2 : i < m
    · have hr := hl _ (get_mem' (l := l) (i := (i : Int)) (by omega) (by omega))
      have hsp := foldT_sp hc (l.take i) ⟨false, false, x⟩
      have hft := foldT_take (d := d) (x := x) (l := l) (i := i) (by omega)
      have hfd : foldT d x (l.take i) = (l.take i).foldl (stepT d) ⟨false, false, x⟩ := rfl
      rw [← hfd, List.length_take] at hsp
      have hsp2 : (foldT d x (l.take i)).x.sp ≤ x.sp + m * 65536 := by
        have h1 := hsp.2
        have h2 : ((min i l.length : Nat) : Int) * 65536 ≤ (m : Int) * 65536 := by omega
        exact Int.le_trans h1 (Int.add_le_add_left h2 _)
      obtain ⟨t, ht⟩ : ∃ t, foldT d x (l.take i) = t := ⟨_, rfl⟩
      rw [ht] at hsp hsp2 hft ⊢
      have hsp1 : x.sp ≤ t.x.sp := hsp.1
      have hone := one_spec h d t.x ts (Cof.get l (i : Int)) hm hc hr.1 hr.2 (by omega) (by omega)
      repeat' (first | (refine XL_id ?_; first | refine XL_nil ?_ | (refine XG_load ?_; refine XL_el tt_ok rfl (by assumption) rfl (by omega) (by omega) rfl rfl rfl rfl ?_) | (refine XG_idx ?_; refine XL_idx tt_ok rfl rfl rfl rfl rfl (by assumption) (by omega) (by omega) rfl ?_) | (refine XG_call ?_; refine XL_callE [2] hone rfl rfl rfl (fun _ _ _ => trivial) ?_) | (refine XG_store ?_; (refine XL_storeW tt_ok 1 rfl rfl rfl rfl rfl rfl rfl ?_; refine XL_nK 1 rfl (by repeat' (first | exact .nil | apply NL.cons)) ?_)) | (refine XL_op tt_ok rfl rfl ?_; try (first | refine XL_int (wrap_i64 (by omega) (by omega)) ?_ | refine XL_dec_t (by omega) ?_))) | (refine X_id ?_; first | refine X_seq ?_ | (refine X_regionN (by repeat' (first | exact .nil | apply NL.cons)) ?_) | refine X_skip ?_ | refine X_block ?_ | refine X_cond_t rfl ?_) | (refine Y_id ?_; first | refine Y_then ?_ | refine Y_block_normal ?_))
      all_goals first
        | exact Y_again (i + 1) fun _ _ hf hs => ⟨hlt2, by show m - (i + 1) < m - i; omega, hf.sub (by (repeat' (first | exact trivial | refine And.intro rfl ?_)); done), hs.imp fun g hg => by (show stars [blk bb [.bool (foldT d x (l.take (i + 1))).a, .bool (foldT d x (l.take (i + 1))).b] 37, blk ba [.bool false, .bool false] 37, isCo h d (foldT d x (l.take (i + 1))).x ts] g; rw [hft]; exact stars_take [1, 1, 0] rfl hg)⟩
        | (exfalso; omega)
        | skip
      
    · obtain rfl : i = m := by omega
      rw [show l.take i = l by rw [hlen]; exact List.take_length]
      repeat' (first | (refine XL_id ?_; first | refine XL_nil ?_ | (refine XG_load ?_; refine XL_loadW tt_ok 0 rfl rfl rfl rfl rfl rfl ?_) | (refine XG_store ?_; (refine XL_storeW tt_ok 1 rfl rfl rfl rfl rfl rfl rfl ?_; refine XL_nK 1 rfl (by repeat' (first | exact .nil | apply NL.cons)) ?_)) | (refine XL_op tt_ok rfl rfl ?_; try (refine XL_dec_f (by omega) ?_))) | (refine X_id ?_; first | refine X_seq ?_ | (refine X_regionN (by repeat' (first | exact .nil | apply NL.cons)) ?_) | refine X_ret ?_ | refine X_exit ?_ | refine X_cond_f rfl ?_) | (refine Y_id ?_; first | refine Y_then ?_ | refine Y_then_exit ?_ | refine Y_block_hit ?_))
      all_goals first
        | exact Y_res2 rfl (.cell tt_ok 1 rfl rfl rfl rfl rfl) (.tmp rfl) (stars_only [2] rfl) ⟨rfl, rfl⟩
        | (exfalso; omega)
        | skip
      
end Go.Proofs.Ythmllhihldbfoaa
