/- Walks of the reference's Find, Pages, Spans. -/
import Derived.Test.YtalkcemelegohaaVmPa
set_option linter.unusedVariables false
set_option maxRecDepth 100000
namespace Go.Proofs.Ytalkcemelegohaa.Vm
open Go.RowKit Go.Cof

def rfindP (l : List Rg) (page : Int) : Rg × Bool × Int :=
  if checkE l ≠ 0 then (⟨0, 0, 0⟩, false, checkE l) else if ¬ (0 ≤ page ∧ page ≤ 1048575) then (⟨0, 0, 0⟩, false, 2) else
  match l.find? (hasP page) with | some r => (r, true, 0) | none => (⟨0, 0, 0⟩, false, 0)
theorem rfindP_1 {l : List Rg} {page : Int} (h : ¬ checkE l = 0) : rfindP l page = (⟨0, 0, 0⟩, false, checkE l) := by unfold rfindP; rw [if_pos h]
theorem rfindP_2 {l : List Rg} {page : Int} (h : ¬ ¬ checkE l = 0) (h1 : ¬ (0 ≤ page ∧ page ≤ 1048575)) : rfindP l page = (⟨0, 0, 0⟩, false, 2) := by unfold rfindP; rw [if_neg h, if_pos h1]
theorem rfindP_3 {l : List Rg} {page : Int} {r : Rg} (h : ¬ ¬ checkE l = 0) (h1 : 0 ≤ page ∧ page ≤ 1048575) (h2 : l.find? (hasP page) = some r) : rfindP l page = (r, true, 0) := by unfold rfindP; rw [if_neg h, if_neg (by omega), h2]
theorem rfindP_4 {l : List Rg} {page : Int} (h : ¬ ¬ checkE l = 0) (h1 : 0 ≤ page ∧ page ≤ 1048575) (h2 : l.find? (hasP page) = none) : rfindP l page = (⟨0, 0, 0⟩, false, 0) := by unfold rfindP; rw [if_neg h, if_neg (by omega), h2]
theorem find_at {α : Type} [Inhabited α] {f : α → Bool} : ∀ {l : List α} {i : Nat}, i < l.length → (∀ j : Nat, j < i → f (Cof.get l j) = false) → f (Cof.get l i) = true → l.find? f = some (Cof.get l i)
  | [], i, h, _, _ => by simp at h
  | r :: l, 0, _, _, h => by rw [List.find?_cons_of_pos (by exact h)]; rfl
  | r :: l, i + 1, hi, h1, h2 => by
    have h3 := h1 0 (by omega)
    have eg : ∀ j : Nat, Cof.get (r :: l) ((j + 1 : Nat) : Int) = Cof.get l (j : Int) := fun j => by
      unfold Cof.get
      rw [Int.toNat_natCast, Int.toNat_natCast]
      rfl
    rw [List.find?_cons_of_neg (by rw [show r = Cof.get (r :: l) ((0 : Nat) : Int) from rfl, h3]; simp), eg]
    exact find_at (by simp at hi; omega) (fun j hj => by rw [← eg]; exact h1 (j + 1) (by omega)) (by rw [← eg]; exact h2)
theorem find_none {α : Type} [Inhabited α] {f : α → Bool} {l : List α} (h : ∀ j : Nat, j < l.length → f (Cof.get l j) = false) : l.find? f = none := by
  rw [List.find?_eq_none]
  intro x hx
  obtain ⟨i, hi, rfl⟩ := List.getElem_of_mem hx
  have := h i hi
  unfold Cof.get at this
  rw [Int.toNat_natCast, List.getD_eq_getElem?_getD, List.getElem?_eq_getElem hi] at this
  have h2 : f l[i] = false := this
  rw [h2]; simp
set_option maxRecDepth 100000 in
set_option maxHeartbeats 4000000 in
theorem rfind_spec (A : Option Addr) (m c : Nat) (l : List Rg) (page : Int) (hm : m ≤ 9223372036854775807) (hl : ∀ r ∈ l, r.In) :
    FnC Try.prog 58 [.slice A m c, .int .i64 page] (fun h => rdS encRg h A m l) (findV (rfindP l page)) := by
  refine Ctr.intro Try.func58 rfl rfl (by decide +kernel) fun F hpre => ?_
  have r1 : rdS encRg F.heap A m l := hpre
  have hlen := r1.1
  have gd : checkE l = 0 → m ≤ 1024 ∧ ∀ r ∈ l, r.Ok := fun h => by have := checkE_good h; exact ⟨by omega, this.2⟩
  repeat' (first | (refine XL_id ?_; first | refine XL_nil ?_ | (refine XG_build ?_; (refine XL_build tt_ok rfl rfl rfl rfl rfl rfl rfl ?_; refine XL_aggN (by repeat' (first | exact .nil | apply NL.cons)) ?_)) | (refine XG_call ?_; first | refine XL_fn (rcheck_spec _ _ _ _ (by omega) (by assumption)) rfl rfl (fun g hg _ => rdS.le (by assumption) hg) ?_ | (refine XL_fn (within_spec _ _ _) rfl rfl (fun _ _ _ => trivial) ?_; refine XL_dec (fun _ => ?_) (fun _ => ?_))) | (refine XG_alloc ?_; (refine XL_alloc tt_ok rfl rfl (fun _ => rfl) (fun b => ?_); refine XL_nB (by repeat' (first | exact .nil | apply NL.cons)) ?_)) | (refine XG_store ?_; (refine XL_storeW tt_ok 0 rfl rfl rfl rfl rfl rfl rfl ?_; refine XL_nK 0 rfl (by repeat' (first | exact .nil | apply NL.cons)) ?_)) | (refine XL_op tt_ok rfl rfl ?_; try (refine XL_dec (fun _ => ?_) (fun _ => ?_)))) | (refine X_id ?_; first | refine X_seq ?_ | (refine X_regionN (by repeat' (first | exact .nil | apply NL.cons)) ?_) | refine X_skip ?_ | refine X_ret ?_ | refine X_block ?_ | refine X_cond_t rfl ?_ | refine X_cond_f rfl ?_) | (refine Y_id ?_; first | refine Y_then ?_ | refine Y_then_ret ?_))
  all_goals first
    | exact Y_res3 rfl (.cell tt_ok 0 rfl rfl rfl rfl rfl) (.tmp rfl) (.tmp rfl) (L' := []) (fun _ _ => trivial) ⟨by rw [rfindP_1 (by assumption)]; rfl, rfl⟩
    | exact Y_res3 rfl (.cell tt_ok 0 rfl rfl rfl rfl rfl) (.tmp rfl) (.tmp rfl) (L' := []) (fun _ _ => trivial) ⟨by rw [rfindP_2 (by assumption) (by omega)]; rfl, rfl⟩
    | skip
  rename_i hn0 hpg
  have gd2 := gd (by omega)
  refine X_loopD [0, 1, 4] (fun (i : Nat) => [(8, .int .i64 i)]) (fun _ => [blk b [.int .i64 0, .int .i64 0, .int .u8 0] 73]) (fun i => i ≤ m ∧ ∀ j : Nat, j < i → hasP page (Cof.get l j) = false) (fun i => m - i) 0 rfl ⟨Nat.zero_le _, fun j hj => by omega⟩ (by (repeat' (first | exact trivial | refine And.intro rfl ?_)); done) (fun _ h => h) ?_
  intro i hi
  obtain ⟨hi, hx⟩ := hi
  by_cases hlt : i < m
  · have okr := gd2.2 _ (get_mem (l := l) (i := (i : Int)) (by omega) (by omega))
    have q1 := okr.p; have q2 := okr.n; have q3 := okr.e
    have ee : (Cof.get l i).end = (Cof.get l i).p + (Cof.get l i).n := rfl
    repeat' (first | (refine XL_id ?_; first | refine XL_nil ?_ | (refine XG_load ?_; refine XL_elW tt_ok rfl (by assumption) rfl (by omega) (by omega) rfl rfl rfl rfl ?_) | (refine XG_idx ?_; refine XL_idx tt_ok rfl rfl rfl rfl rfl (by assumption) (by omega) (by omega) rfl ?_) | (refine XG_call ?_; (refine XL_op tt_ok rfl rfl ?_)) | (refine XG_store ?_; (refine XL_storeW tt_ok 0 rfl rfl rfl rfl rfl rfl rfl ?_; refine XL_nK 0 rfl (by repeat' (first | exact .nil | apply NL.cons)) ?_)) | (refine XL_op tt_ok rfl rfl ?_; try (first | refine XL_int (wrap_i64 (by omega) (by omega)) ?_ | refine XL_dec_t (by omega) ?_))) | (refine XD_id ?_; first | (refine XD_thaw thaw ?_; refine XD_nil ?_) | refine XD_no rfl rfl rfl rfl rfl rfl ?_ | (refine XD_id ?_; (first | (refine XD_uL rfl ?_; refine XD_s rfl rfl rfl (XV_el tt_ok rfl (rdS.le (by assumption) hFG) rfl (by omega) (by omega) rfl rfl rfl) rfl ?_) | (refine XD_uI rfl ?_; refine XD_s rfl rfl rfl (XV_idx tt_ok rfl rfl rfl rfl rfl (rdS.le (by assumption) hFG) (by omega) (by omega)) rfl ?_) | (refine XD_gL rfl ?_; first | refine XD_sy rfl rfl rfl rfl rfl (XV_el tt_ok rfl (rdS.le (by assumption) hFG) rfl (by omega) (by omega) rfl rfl rfl) rfl ?_ | refine XD_sy rfl rfl rfl rfl rfl (XV_elf tt_ok rfl (rdS.le (by assumption) hFG) rfl (by omega) (by omega) rfl rfl rfl) rfl ?_) | (refine XD_gI rfl ?_; refine XD_sy rfl rfl rfl rfl rfl (XV_idx tt_ok rfl rfl rfl rfl rfl (rdS.le (by assumption) hFG) (by omega) (by omega)) rfl ?_) | (refine XD_u rfl rfl ?_; refine XD_s rfl rfl rfl (XV_op tt_ok rfl) rfl ?_) | (refine XD_g rfl rfl ?_; refine XD_sy rfl rfl rfl rfl rfl (XV_op tt_ok rfl) rfl ?_)); try (first | refine XD_int (wrap_i64 (by omega) (by omega)) ?_ | refine XD_dec (fun _ => ?_) (fun _ => ?_)))) | (refine X_id ?_; first | (refine X_drawS (id := 9) [0, 1, 2, 3, 4, 5, 6, 7, 8, 9, 10, 11, 12, 13, 14, 15, 16, 17, 18, 19, 20, 21] (fun _ => .s) 8 (by repeat' (first | exact Split.nil | apply Split.blk)) mixed (by decide +kernel) ?_; intro G hFG hM thaw; show XD _ _ _ _ _ _ [0, 1, 2, 3, 4, 5, 6, 7, 8, 9, 10, 11, 12, 13, 14, 15, 16, 17, 18, 19, 20, 21] _ _ _) | refine X_seq ?_ | (refine X_regionN (by repeat' (first | exact .nil | apply NL.cons)) ?_) | refine X_skip ?_ | refine X_ret ?_ | refine X_block ?_ | refine X_cond_t rfl ?_ | refine X_cond_f rfl ?_) | (refine Y_id ?_; first | refine Y_then ?_ | refine Y_then_ret ?_ | refine Y_block_normal ?_ | refine Y_block_ret ?_))
    all_goals first
      | exact Y_res3 rfl (.cell tt_ok 0 rfl rfl rfl rfl rfl) (.tmp rfl) (.tmp rfl) (L' := []) (fun _ _ => trivial) ⟨by rw [rfindP_3 (by assumption) hpg (find_at (by omega) hx (decide_eq_true (by omega)))]; rfl, rfl⟩
      | exact Y_again (i + 1) fun _ _ hf hs => ⟨⟨by omega, upto_succ hx (decide_eq_false (by omega))⟩, by omega, hf.sub (by (repeat' (first | exact trivial | refine And.intro rfl ?_)); done), hs.imp fun h hs => hs⟩
      | skip
    
  · repeat' (first | (refine XL_id ?_; first | refine XL_nil ?_ | (refine XG_build ?_; (refine XL_build tt_ok rfl rfl rfl rfl rfl rfl rfl ?_; refine XL_aggN (by repeat' (first | exact .nil | apply NL.cons)) ?_)) | (refine XG_call ?_; (refine XL_op tt_ok rfl rfl ?_)) | (refine XG_store ?_; (refine XL_storeW tt_ok 0 rfl rfl rfl rfl rfl rfl rfl ?_; refine XL_nK 0 rfl (by repeat' (first | exact .nil | apply NL.cons)) ?_)) | (refine XL_op tt_ok rfl rfl ?_; try (refine XL_dec_f (by omega) ?_))) | (refine X_id ?_; first | refine X_seq ?_ | (refine X_regionN (by repeat' (first | exact .nil | apply NL.cons)) ?_) | refine X_ret ?_ | refine X_exit ?_ | refine X_cond_f rfl ?_) | (refine Y_id ?_; first | refine Y_then ?_ | refine Y_then_exit ?_ | refine Y_block_hit ?_))
    exact Y_res3 rfl (.cell tt_ok 0 rfl rfl rfl rfl rfl) (.tmp rfl) (.tmp rfl) (L' := []) (fun _ _ => trivial) ⟨by rw [rfindP_4 (by assumption) hpg (find_none fun j hj => hx j (by omega))]; rfl, rfl⟩
set_option maxRecDepth 100000 in
set_option maxHeartbeats 4000000 in
theorem rpagesOf_spec (A : Option Addr) (m c : Nat) (l : List Rg) (hm : m ≤ 9223372036854775807) (hl : ∀ r ∈ l, r.In) :
    FnC Try.prog 52 [.slice A m c] (fun h => rdS encRg h A m l) (.tuple #[.int .i64 (pagesP l).1, .int .i64 (pagesP l).2]) := by
  refine Ctr.intro Try.func52 rfl rfl (by decide +kernel) fun F hpre => ?_
  have r1 : rdS encRg F.heap A m l := hpre
  have hlen := r1.1
  have gd : checkE l = 0 → m ≤ 1024 ∧ ∀ r ∈ l, r.Ok := fun h => by have := checkE_good h; exact ⟨by omega, this.2⟩
  repeat' (first | (refine XL_id ?_; first | refine XL_nil ?_ | (refine XG_call ?_; first | refine XL_fn (count_spec _ _ _ _ (gd (by omega)).1 (gd (by omega)).2) rfl rfl (fun g hg hL => r1.le hg) ?_ | refine XL_fn (rcheck_spec _ _ _ _ (by omega) (by assumption)) rfl rfl (fun g hg _ => rdS.le (by assumption) hg) ?_) | (refine XL_op tt_ok rfl rfl ?_; try (refine XL_dec (fun _ => ?_) (fun _ => ?_)))) | (refine X_id ?_; first | refine X_seq ?_ | (refine X_regionN (by repeat' (exact .nil)) ?_) | refine X_skip ?_ | refine X_ret ?_ | refine X_cond_t rfl ?_ | refine X_cond_f rfl ?_) | (refine Y_id ?_; first | refine Y_then ?_ | refine Y_then_ret ?_))
  · exact Y_fn2 rfl rfl rfl (by rw [pagesP_1 (by assumption)])
  · exact Y_fn2 rfl rfl rfl (by rw [pagesP_2 (by assumption)])
set_option maxRecDepth 100000 in
set_option maxHeartbeats 4000000 in
theorem rspansOf_spec (A : Option Addr) (m c : Nat) (l : List Rg) (hm : m ≤ 9223372036854775807) (hl : ∀ r ∈ l, r.In) :
    Ctr Try.prog 53 [.slice A m c] (fun h => rdS encRg h A m l) [] (LRes encSp (spansP l).1 (.int .i64 (spansP l).2)) := by
  refine Ctr.intro Try.func53 rfl rfl (by decide +kernel) fun F hpre => ?_
  have r1 : rdS encRg F.heap A m l := hpre
  have hlen := r1.1
  have gd : checkE l = 0 → m ≤ 1024 ∧ ∀ r ∈ l, r.Ok := fun h => by have := checkE_good h; exact ⟨by omega, this.2⟩
  repeat' (first | (refine XL_id ?_; first | refine XL_nil ?_ | (refine XG_call ?_; refine XL_fn (rcheck_spec _ _ _ _ (by omega) (by assumption)) rfl rfl (fun g hg _ => rdS.le (by assumption) hg) ?_) | (refine XL_op tt_ok rfl rfl ?_; try (refine XL_dec (fun _ => ?_) (fun _ => ?_)))) | (refine X_id ?_; first | refine X_seq ?_ | (refine X_regionN (by repeat' (exact .nil)) ?_) | refine X_skip ?_ | refine X_ret ?_ | refine X_block ?_ | refine X_cond_t rfl ?_ | refine X_cond_f rfl ?_) | (refine Y_id ?_; first | refine Y_then ?_ | refine Y_then_ret ?_))
  · exact Y_ret2 rfl rfl rfl (fin_nil encSp) ⟨⟨none, 0, 0, []⟩, by rw [spansP_1 (by assumption)], rfl, by rw [spansP_1 (by assumption)], rfl⟩
  have gd2 := gd (by omega)
  refine X_loopD2 [0] (fun (i : Nat) (o : Ow (Int × Int)) => [(6, .int .i64 i), (5, o.v)]) (fun _ o => [o.own encSp]) (fun i o => i ≤ m ∧ o.xs = (l.take i).map (fun r => (r.p, r.n)) ∧ o.m = i) (fun i _ => m - i) 0 ⟨none, 0, 0, []⟩ rfl ⟨Nat.zero_le _, rfl, rfl⟩ (by (repeat' (first | exact trivial | refine And.intro rfl ?_)); done) (fun _ h => fin_nil encSp _ h) ?_
  intro i o hi
  obtain ⟨hi, hp, hom⟩ := hi
  by_cases hlt : i < m
  · repeat' (first | (refine XL_id ?_; first | refine XL_nil ?_ | (refine XG_call ?_; first | (refine XL_op tt_ok rfl rfl ?_) | (refine XL_app1 tt_ok 1 0 ((Cof.get l i).p, (Cof.get l i).n) rfl rfl rfl rfl rfl rfl rfl rfl rfl rfl rfl (by show (_ : Nat) * 16 ≤ _; omega) (by omega) (fun _ _ => rfl) (fun A2 c2 => ?_))) | (refine XG_lit ?_; (refine XL_lit tt_ok rfl rfl rfl rfl rfl rfl rfl rfl rfl (fun _ => rfl) (fun b => ?_); refine XL_nB (by repeat' (first | exact .nil | apply NL.cons)) ?_)) | (refine XL_op tt_ok rfl rfl ?_; try (first | refine XL_int (wrap_i64 (by omega) (by omega)) ?_ | refine XL_dec_t (by omega) ?_))) | (refine XD_id ?_; first | (refine XD_thaw thaw ?_; refine XD_nil ?_) | (refine XD_id ?_; (first | (refine XD_uL rfl ?_; first | refine XD_s rfl rfl rfl (XV_el tt_ok rfl (rdS.le (by assumption) hFG) rfl (by omega) (by omega) rfl rfl rfl) rfl ?_ | refine XD_s rfl rfl rfl (XV_elf tt_ok rfl (rdS.le (by assumption) hFG) rfl (by omega) (by omega) rfl rfl rfl) rfl ?_) | (refine XD_uI rfl ?_; refine XD_s rfl rfl rfl (XV_idx tt_ok rfl rfl rfl rfl rfl (rdS.le (by assumption) hFG) (by omega) (by omega)) rfl ?_) | (refine XD_u rfl rfl ?_; first | refine XD_s rfl rfl rfl (XV_op tt_ok rfl) rfl ?_ | refine XD_s rfl rfl rfl (XV_build tt_ok rfl rfl rfl rfl rfl rfl) rfl ?_))) | refine XD_m rfl rfl ?_) | (refine X_id ?_; first | (refine X_drawS (id := 8) [0, 1, 2, 3, 4, 5, 6, 7, 8, 9, 10, 11, 12, 13, 14] (fun | 12 => .m | 13 => .m | _ => .s) 8 (by repeat' (first | exact Split.nil | apply Split.keep)) mixed (by decide +kernel) ?_; intro G hFG hM thaw; show XD _ _ _ _ _ _ [0, 1, 2, 3, 4, 5, 6, 7, 8, 9, 10, 11, 12, 13, 14] _ _ _) | refine X_seq ?_ | (refine X_regionN (by repeat' (first | exact .nil | apply NL.cons)) ?_) | refine X_skip ?_ | refine X_block ?_ | refine X_cond_t rfl ?_) | (refine Y_id ?_; first | refine Y_then ?_ | refine Y_block_normal ?_ | refine Y_m ?_))
    exact Y_again (i + 1, ⟨A2, _, c2, _⟩) fun _ _ hf hs => ⟨⟨by show i + 1 ≤ m; omega, by rw [hp, take_snoc _ _ (by omega), List.map_append]; rfl, by rw [hom]⟩, by show m - (i + 1) < m - i; omega, hf.sub (by (repeat' (first | exact trivial | refine And.intro rfl ?_)); done), hs.imp fun h hs => stars_only [1] rfl h hs⟩
  · rw [List.take_of_length_le (by omega)] at hp
    repeat' (first | (refine XL_id ?_; first | refine XL_nil ?_ | (refine XG_call ?_; (refine XL_op tt_ok rfl rfl ?_)) | (refine XL_op tt_ok rfl rfl ?_; try (refine XL_dec_f (by omega) ?_))) | (refine X_id ?_; first | refine X_seq ?_ | (refine X_regionN (by repeat' (first | exact .nil | apply NL.cons)) ?_) | refine X_ret ?_ | refine X_exit ?_ | refine X_cond_f rfl ?_) | (refine Y_id ?_; first | refine Y_then ?_ | refine Y_then_exit ?_ | refine Y_block_hit ?_))
    exact Y_ret2 rfl rfl rfl (stars_only [0] rfl) ⟨o, by rw [spansP_2 (by assumption), hp], by rw [hp, List.length_map]; omega, by rw [spansP_2 (by assumption)], rfl⟩
end Go.Proofs.Ytalkcemelegohaa.Vm
