/- Walks of Find, Gap, Pages, Spans. -/
import Derived.Test.YtpkffgbcebjhaaaWi
import Derived.Test.YtpkffgbcebjhaaaSlO
import Derived.KernelRfl
set_option linter.unusedVariables false
namespace Go.Proofs.Ytpkffgbcebjhaaa
open Go.RowKit Go.Cof

theorem trivial_parts {F : Frz} {w : World} {L : List HProp} (h : St F w L) : St F w [] := h.nil
theorem take_snoc {α : Type} [Inhabited α] (l : List α) (i : Nat) (h : i < l.length) : l.take (i + 1) = l.take i ++ [Cof.get l i] := by
  rw [List.take_succ_eq_append_getElem h]
  unfold Cof.get
  rw [Int.toNat_natCast, List.getD_eq_getElem?_getD, List.getElem?_eq_getElem h]
  rfl
def findP (l : List Rg) (page : Int) : Rg × Bool × Int :=
  if checkE l ≠ 0 then (⟨0, 0, 0⟩, false, checkE l) else if page < 0 ∨ 1048576 ≤ page then (⟨0, 0, 0⟩, false, 2) else
  if firstN l page < l.length ∧ (Cof.get l (firstN l page : Nat)).p ≤ page then (Cof.get l (firstN l page : Nat), true, 0) else (⟨0, 0, 0⟩, false, 0)
def findV (x : Rg × Bool × Int) : Value := .tuple #[rgV x.1, .bool x.2.1, .int .i64 x.2.2]
theorem findP_1 {l : List Rg} {page : Int} (h : ¬ checkE l = 0) : findP l page = (⟨0, 0, 0⟩, false, checkE l) := by unfold findP; rw [if_pos h]
theorem findP_2 {l : List Rg} {page : Int} (h : ¬ ¬ checkE l = 0) (h1 : page < 0 ∨ 1048576 ≤ page) : findP l page = (⟨0, 0, 0⟩, false, 2) := by unfold findP; rw [if_neg h, if_pos h1]
theorem findP_3 {l : List Rg} {page : Int} (h : ¬ ¬ checkE l = 0) (h1 : ¬ (page < 0 ∨ 1048576 ≤ page)) (h2 : firstN l page < l.length) (h3 : (Cof.get l (firstN l page : Nat)).p ≤ page) : findP l page = (Cof.get l (firstN l page : Nat), true, 0) := by unfold findP; rw [if_neg h, if_neg h1, if_pos ⟨h2, h3⟩]
theorem findP_4 {l : List Rg} {page : Int} (h : ¬ ¬ checkE l = 0) (h1 : ¬ (page < 0 ∨ 1048576 ≤ page)) (h2 : ¬ firstN l page < l.length ∨ ¬ (Cof.get l (firstN l page : Nat)).p ≤ page) : findP l page = (⟨0, 0, 0⟩, false, 0) := by
  unfold findP; rw [if_neg h, if_neg h1, if_neg fun hc => h2.elim (fun h => h hc.1) fun h => h hc.2]
set_option maxRecDepth 100000 in
set_option maxHeartbeats 4000000 in
theorem find_spec (A : Option Addr) (m c : Nat) (l : List Rg) (page : Int) (hm : m ≤ 9223372036854775807) (hl : ∀ r ∈ l, r.In) :
    FnC Try.prog 32 [.slice A m c, .int .i64 page] (fun h => rdS encRg h A m l) (findV (findP l page)) := by
  refine Ctr.intro Try.func32 rfl rfl (by decide +kernel) fun F hpre => ?_
  have r1 : rdS encRg F.heap A m l := hpre
  have hlen := r1.1
  have gd : checkE l = 0 → m ≤ 1024 ∧ ∀ r ∈ l, r.Ok := fun h => by have := checkE_good h; exact ⟨by omega, this.2⟩
  repeat' (first | (refine XL_id ?_; first | refine XL_nil ?_ | refine XL_guard_yes rfl rfl rfl ?_ | refine XL_guard_no rfl rfl rfl rfl rfl ?_ | (refine XG_load ?_; first | refine XL_elW tt_ok rfl (by assumption) rfl (by omega) (by omega) rfl rfl rfl rfl ?_ | refine XL_el tt_ok rfl (by assumption) rfl (by omega) (by omega) rfl rfl rfl rfl ?_) | (refine XG_idx ?_; refine XL_idx tt_ok rfl rfl rfl rfl rfl (by assumption) (by omega) (by omega) rfl ?_) | (refine XG_build ?_; refine XL_build tt_ok rfl rfl rfl rfl rfl rfl rfl ?_) | (refine XG_call ?_; first | (refine XL_op tt_ok rfl rfl ?_) | (refine XL_fn (first_spec A m c l page (by omega) (gd (by omega)).2) rfl rfl (fun g hg _ => r1.le hg) ?_) | refine XL_fn (check_spec _ _ _ _ (by omega) (by assumption)) rfl rfl (fun g hg _ => rdS.le (by assumption) hg) ?_) | (refine XG_alloc ?_; refine XL_alloc tt_ok rfl rfl (fun _ => rfl) (fun b => ?_)) | (refine XG_store ?_; refine XL_storeW tt_ok 0 rfl rfl rfl rfl rfl rfl rfl ?_) | (refine XL_op tt_ok rfl rfl ?_; try (refine XL_dec (fun _ => ?_) (fun _ => ?_)))) | (refine X_id ?_; first | refine X_seq ?_ | refine X_region ?_ | refine X_skip ?_ | refine X_ret ?_ | refine X_cond_t rfl ?_ | refine X_cond_f rfl ?_) | (refine Y_id ?_; first | refine Y_then ?_ | refine Y_then_ret ?_))
  all_goals first
    | exact Y_res3 rfl (.cell tt_ok 0 rfl rfl rfl rfl rfl) (.tmp rfl) (.tmp rfl) (L' := []) (fun _ _ => trivial) ⟨by rw [findP_1 (by assumption)]; rfl, rfl⟩
    | exact Y_res3 rfl (.cell tt_ok 0 rfl rfl rfl rfl rfl) (.tmp rfl) (.tmp rfl) (L' := []) (fun _ _ => trivial) ⟨by rw [findP_2 (by assumption) (by omega)]; rfl, rfl⟩
    | exact Y_res3 rfl (.cell tt_ok 0 rfl rfl rfl rfl rfl) (.tmp rfl) (.tmp rfl) (L' := []) (fun _ _ => trivial) ⟨by rw [findP_3 (by assumption) (by omega) (by omega) (by omega)]; rfl, rfl⟩
    | exact Y_res3 rfl (.cell tt_ok 0 rfl rfl rfl rfl rfl) (.tmp rfl) (.tmp rfl) (L' := []) (fun _ _ => trivial) ⟨by rw [findP_4 (by assumption) (by omega) (by omega)]; rfl, rfl⟩
    | skip
  
/-- From p on, past the regions that leave no room. -/
def gapL (n : Int) : List Rg → Int → Int
  | [], p => p
  | r :: l, p => if r.p - p ≥ n then p else gapL n l (if r.end > p then r.end else p)
def gapP (l : List Rg) (n from_ to : Int) : Int × Bool × Int :=
  if checkE l ≠ 0 then (0, false, checkE l) else if n < 1 ∨ n > 1048576 ∨ from_ < 0 ∨ to > 1048576 ∨ from_ > to then (0, false, 2) else
  if gapL n (l.drop (firstN l from_)) from_ > to - n then (0, false, 0) else (gapL n (l.drop (firstN l from_)) from_, true, 0)
def gapV (x : Int × Bool × Int) : Value := .tuple #[.int .i64 x.1, .bool x.2.1, .int .i64 x.2.2]
theorem gapP_1 {l : List Rg} {n from_ to : Int} (h : ¬ checkE l = 0) : gapP l n from_ to = (0, false, checkE l) := by unfold gapP; rw [if_pos h]
theorem gapP_2 {l : List Rg} {n from_ to : Int} (h : ¬ ¬ checkE l = 0) (h1 : n < 1 ∨ n > 1048576 ∨ from_ < 0 ∨ to > 1048576 ∨ from_ > to) : gapP l n from_ to = (0, false, 2) := by unfold gapP; rw [if_neg h, if_pos h1]
theorem gapP_3 {l : List Rg} {n from_ to p : Int} (h : ¬ ¬ checkE l = 0) (h1 : ¬ (n < 1 ∨ n > 1048576 ∨ from_ < 0 ∨ to > 1048576 ∨ from_ > to)) (hp : gapL n (l.drop (firstN l from_)) from_ = p) (h2 : p > to - n) : gapP l n from_ to = (0, false, 0) := by unfold gapP; rw [if_neg h, if_neg h1, hp, if_pos h2]
theorem gapP_4 {l : List Rg} {n from_ to p : Int} (h : ¬ ¬ checkE l = 0) (h1 : ¬ (n < 1 ∨ n > 1048576 ∨ from_ < 0 ∨ to > 1048576 ∨ from_ > to)) (hp : gapL n (l.drop (firstN l from_)) from_ = p) (h2 : ¬ p > to - n) : gapP l n from_ to = (p, true, 0) := by unfold gapP; rw [if_neg h, if_neg h1, hp, if_neg h2]
theorem drop_get {α : Type} [Inhabited α] (l : List α) (i : Nat) (h : i < l.length) : l.drop i = Cof.get l i :: l.drop (i + 1) := by
  rw [List.drop_eq_getElem_cons h]
  unfold Cof.get
  rw [Int.toNat_natCast, List.getD_eq_getElem?_getD, List.getElem?_eq_getElem h]
  rfl
theorem gapL_stop {n : Int} {r : Rg} {l : List Rg} {p : Int} (h : r.p - p ≥ n) : gapL n (r :: l) p = p := if_pos h
theorem gapL_on {n : Int} {r : Rg} {l : List Rg} {p : Int} (h : ¬ r.p - p ≥ n) : gapL n (r :: l) p = gapL n l (if r.end > p then r.end else p) := if_neg h
set_option maxRecDepth 100000 in
set_option maxHeartbeats 4000000 in
theorem gap_spec (A : Option Addr) (m c : Nat) (l : List Rg) (n from_ to : Int) (hm : m ≤ 9223372036854775807) (hmc : m ≤ c) (hl : ∀ r ∈ l, r.In) (q1 : -9223372036854775808 ≤ from_ ∧ from_ ≤ 9223372036854775807) (q2 : -9223372036854775808 ≤ to ∧ to ≤ 9223372036854775807) (q3 : -9223372036854775808 ≤ n ∧ n ≤ 9223372036854775807) :
    FnC Try.prog 24 [.slice A m c, .int .i64 n, .int .i64 from_, .int .i64 to] (fun h => rdS encRg h A m l) (gapV (gapP l n from_ to)) := by
  refine Ctr.intro Try.func24 rfl rfl (by decide +kernel) fun F hpre => ?_
  have r1 : rdS encRg F.heap A m l := hpre
  have hlen := r1.1
  have gd : checkE l = 0 → m ≤ 1024 ∧ ∀ r ∈ l, r.Ok := fun h => by have := checkE_good h; exact ⟨by omega, this.2⟩
  have hk := firstN_le l from_
  generalize hkk : firstN l from_ = k at hk
  have r4 := r1.sub (l := k) (k := m) (cc := c) (by omega) (Nat.le_refl _) hmc
  rw [List.take_of_length_le (by omega)] at r4
  have hf := fun hg : ∀ r ∈ l, r.Ok => first_spec A m c l from_ (by omega) hg
  rw [hkk] at hf
  repeat' (first | (refine XL_id ?_; first | refine XL_nil ?_ | refine XL_guard_yes rfl rfl rfl ?_ | refine XL_guard_no rfl rfl rfl rfl rfl ?_ | (refine XG_call ?_; first | (refine XL_op tt_ok rfl rfl ?_) | refine XL_fn (hf (gd (by omega)).2) rfl rfl (fun g hg _ => r1.le hg) ?_ | refine XL_fn (check_spec _ _ _ _ (by omega) (by assumption)) rfl rfl (fun g hg _ => rdS.le (by assumption) hg) ?_) | (refine XG_slice ?_; refine XL_slice tt_ok rfl rfl rfl rfl (.lo (by omega) (by omega)) rfl rfl rfl rfl ?_) | (refine XL_op tt_ok rfl rfl ?_; try (first | refine XL_int (wrap_i64 (by omega) (by omega)) ?_ | refine XL_dec (fun _ => ?_) (fun _ => ?_)))) | (refine X_id ?_; first | refine X_cutD (c := .block 0 _) [1, 3] (fun (p : Int) => [(12, .int .i64 p)]) (fun p => []) (fun p => gapL n (l.drop k) from_ = p ∧ 0 ≤ p ∧ p ≤ 1048576) rfl (X_block ?_) (fun p hp => ?_) | refine X_seq ?_ | refine X_region ?_ | refine X_skip ?_ | refine X_ret ?_ | refine X_cond_t rfl ?_ | refine X_cond_f rfl ?_) | (refine Y_id ?_; first | refine Y_then ?_ | refine Y_then_ret ?_))
  all_goals first
    | exact Y_fn3 rfl rfl rfl rfl (by rw [gapP_1 (by assumption)]; rfl)
    | exact Y_fn3 rfl rfl rfl rfl (by rw [gapP_2 (by assumption) (by omega)]; rfl)
    | exact Y_fn3 rfl rfl rfl rfl (by rw [gapP_3 (p := p) (by assumption) (by omega) (by rw [hkk]; exact hp.1) (by omega)]; rfl)
    | exact Y_fn3 rfl rfl rfl rfl (by rw [gapP_4 (p := p) (by assumption) (by omega) (by rw [hkk]; exact hp.1) (by omega)]; rfl)
    | skip
  have gd2 := gd (by omega)
  refine X_loopD2 [1, 3, 44, 45] (fun (i : Nat) (p : Int) => [(46, .int .i64 i), (12, .int .i64 p)]) (fun _ _ => []) (fun i p => i ≤ m - k ∧ gapL n (l.drop k) from_ = gapL n ((l.drop k).drop i) p ∧ 0 ≤ p ∧ p ≤ 1048576) (fun i _ => m - k - i) 0 from_ rfl ⟨Nat.zero_le _, rfl, by omega, by omega⟩ (by (repeat' (first | exact trivial | refine And.intro rfl ?_)); done) (fun _ h => h) ?_
  intro i p hi
  obtain ⟨hi, hg, hp0, hp1⟩ := hi
  by_cases hlt : i < m - k
  · have okr : (Cof.get (l.drop k) i).Ok := gd2.2 _ (List.mem_of_mem_drop (get_mem (by omega) (by rw [List.length_drop]; omega)))
    have q1 := okr.p; have q2 := okr.n; have q3 := okr.e; have ee : (Cof.get (l.drop k) i).end = (Cof.get (l.drop k) i).p + (Cof.get (l.drop k) i).n := rfl
    rw [drop_get (l.drop k) i (by rw [List.length_drop]; omega)] at hg
    repeat' (first | (refine XL_id ?_; first | refine XL_nil ?_ | (refine XG_load ?_; first | refine XL_loadW tt_ok 0 rfl rfl rfl rfl rfl rfl ?_ | refine XL_load tt_ok 0 rfl rfl rfl rfl rfl rfl ?_ | refine XL_elW tt_ok rfl (by assumption) rfl (by omega) (by omega) rfl rfl rfl rfl ?_) | (refine XG_idx ?_; refine XL_idx tt_ok rfl rfl rfl rfl rfl (by assumption) (by omega) (by omega) rfl ?_) | (refine XG_call ?_; first | (refine XL_op tt_ok rfl rfl ?_) | refine XL_fn (end_ok _ okr) rfl rfl (fun _ _ _ => trivial) ?_) | (refine XG_alloc ?_; refine XL_alloc tt_ok rfl rfl (fun _ => rfl) (fun b => ?_)) | (refine XG_store ?_; refine XL_storeW tt_ok 0 rfl rfl rfl rfl rfl rfl rfl ?_) | (refine XL_op tt_ok rfl rfl ?_; try (first | refine XL_int (wrap_i64 (by omega) (by omega)) ?_ | refine XL_dec_t (by omega) ?_ | refine XL_dec (fun _ => ?_) (fun _ => ?_)))) | (refine X_id ?_; first | refine X_seq ?_ | refine X_region ?_ | refine X_skip ?_ | refine X_exit ?_ | refine X_block ?_ | refine X_cond_t rfl ?_ | refine X_cond_f rfl ?_) | (refine Y_id ?_; first | refine Y_then ?_ | refine Y_then_exit ?_ | refine Y_block_hit ?_ | refine Y_block_miss rfl ?_ | refine Y_block_normal ?_))
    · exact Y_again p fun _ _ hf hs => ⟨⟨hg.trans (gapL_stop (by omega)), hp0, hp1⟩, hf.sub (by (repeat' (first | exact trivial | refine And.intro rfl ?_)); done), trivial_parts hs⟩
    · exact Y_again (i + 1, if (Cof.get (l.drop k) i).end > p then (Cof.get (l.drop k) i).end else p) fun _ _ hf hs => ⟨⟨by show i + 1 ≤ m - k; omega, hg.trans (gapL_on (by omega)), by show 0 ≤ if (Cof.get (l.drop k) i).end > p then (Cof.get (l.drop k) i).end else p; omega, by show (if (Cof.get (l.drop k) i).end > p then (Cof.get (l.drop k) i).end else p) ≤ _; omega⟩, by show m - k - (i + 1) < m - k - i; omega, hf.sub (by (repeat' (first | exact trivial | refine And.intro rfl ?_)); done), trivial_parts hs⟩
  · have e0 : (l.drop k).drop i = [] := List.drop_of_length_le (by rw [List.length_drop]; omega)
    rw [e0] at hg
    repeat' (first | (refine XL_id ?_; first | refine XL_nil ?_ | (refine XL_op tt_ok rfl rfl ?_; try (refine XL_dec_f (by omega) ?_))) | (refine X_id ?_; first | refine X_seq ?_ | refine X_region ?_ | refine X_exit ?_ | refine X_cond_f rfl ?_) | (refine Y_id ?_; first | refine Y_then ?_ | refine Y_then_exit ?_ | refine Y_block_hit ?_))
    exact Y_again p fun _ _ hf hs => ⟨⟨hg, hp0, hp1⟩, hf.sub (by (repeat' (first | exact trivial | refine And.intro rfl ?_)); done), trivial_parts hs⟩
def pagesP (l : List Rg) : Int × Int := if checkE l ≠ 0 then (0, checkE l) else (l.foldl (fun s r => s + r.n) 0, 0)
theorem pagesP_1 {l : List Rg} (h : ¬ checkE l = 0) : pagesP l = (0, checkE l) := if_pos h
theorem pagesP_2 {l : List Rg} (h : ¬ ¬ checkE l = 0) : pagesP l = (l.foldl (fun s r => s + r.n) 0, 0) := if_neg h
theorem sum_num : ∀ (l : List Rg) (s : Int), (∀ r ∈ l, r.Ok) → s ≤ l.foldl (fun s r => s + r.n) s ∧ l.foldl (fun s r => s + r.n) s ≤ s + l.length * 1048576
  | [], _, _ => by simp
  | r :: l, s, h => by
    have := sum_num l (s + r.n) fun x hx => h x (by simp [hx])
    have h0 := h r (by simp)
    have := h0.n; have := h0.e; have := h0.p
    simp only [List.foldl_cons, List.length_cons]
    omega
set_option maxRecDepth 100000 in
set_option maxHeartbeats 4000000 in
theorem pagesOf_spec (A : Option Addr) (m c : Nat) (l : List Rg) (hm : m ≤ 9223372036854775807) (hl : ∀ r ∈ l, r.In) :
    FnC Try.prog 31 [.slice A m c] (fun h => rdS encRg h A m l) (.tuple #[.int .i64 (pagesP l).1, .int .i64 (pagesP l).2]) := by
  refine Ctr.intro Try.func31 rfl rfl (by decide +kernel) fun F hpre => ?_
  have r1 : rdS encRg F.heap A m l := hpre
  have hlen := r1.1
  have gd : checkE l = 0 → m ≤ 1024 ∧ ∀ r ∈ l, r.Ok := fun h => by have := checkE_good h; exact ⟨by omega, this.2⟩
  repeat' (first | (refine XL_id ?_; first | refine XL_nil ?_ | (refine XG_call ?_; first | (refine XL_op tt_ok rfl rfl ?_) | refine XL_fn (check_spec _ _ _ _ (by omega) (by assumption)) rfl rfl (fun g hg _ => rdS.le (by assumption) hg) ?_) | (refine XL_op tt_ok rfl rfl ?_; try (refine XL_dec (fun _ => ?_) (fun _ => ?_)))) | (refine X_id ?_; first | refine X_seq ?_ | refine X_region ?_ | refine X_skip ?_ | refine X_ret ?_ | refine X_block ?_ | refine X_cond_t rfl ?_ | refine X_cond_f rfl ?_) | (refine Y_id ?_; first | refine Y_then ?_ | refine Y_then_ret ?_))
  · exact Y_fn2 rfl rfl rfl (by rw [pagesP_1 (by assumption)])
  have gd2 := gd (by omega)
  refine X_loopD2 [13, 14] (fun (i : Nat) (p : Int) => [(15, .int .i64 i), (5, .int .i64 p)]) (fun _ _ => []) (fun i p => i ≤ m ∧ p = (l.take i).foldl (fun s r => s + r.n) 0) (fun i _ => m - i) 0 0 rfl ⟨Nat.zero_le _, rfl⟩ (by (repeat' (first | exact trivial | refine And.intro rfl ?_)); done) (fun _ h => h) ?_
  intro i p hi
  obtain ⟨hi, hp⟩ := hi
  have hs := sum_num (l.take i) 0 fun x hx => gd2.2 x (List.mem_of_mem_take hx)
  rw [← hp, List.length_take] at hs
  by_cases hlt : i < m
  · have okr : (Cof.get l i).Ok := gd2.2 _ (get_mem (by omega) (by omega))
    have q1 := okr.p; have q2 := okr.n; have q3 := okr.e
    repeat' (first | (refine XL_id ?_; first | refine XL_nil ?_ | (refine XG_load ?_; first | refine XL_load tt_ok 0 rfl rfl rfl rfl rfl rfl ?_ | refine XL_elW tt_ok rfl (by assumption) rfl (by omega) (by omega) rfl rfl rfl rfl ?_) | (refine XG_idx ?_; refine XL_idx tt_ok rfl rfl rfl rfl rfl (by assumption) (by omega) (by omega) rfl ?_) | (refine XG_alloc ?_; refine XL_alloc tt_ok rfl rfl (fun _ => rfl) (fun b => ?_)) | (refine XG_store ?_; refine XL_storeW tt_ok 0 rfl rfl rfl rfl rfl rfl rfl ?_) | (refine XL_op tt_ok rfl rfl ?_; try (first | refine XL_int (wrap_i64 (by omega) (by omega)) ?_ | refine XL_dec_t (by omega) ?_))) | (refine X_id ?_; first | refine X_seq ?_ | refine X_region ?_ | refine X_skip ?_ | refine X_block ?_ | refine X_cond_t rfl ?_) | (refine Y_id ?_; first | refine Y_then ?_ | refine Y_block_normal ?_))
    exact Y_again (i + 1, _) fun _ _ hf hs => ⟨⟨by show i + 1 ≤ m; omega, by rw [take_fold _ _ _ _ (by omega), ← hp]⟩, by show m - (i + 1) < m - i; omega, hf.sub (by (repeat' (first | exact trivial | refine And.intro rfl ?_)); done), trivial_parts hs⟩
  · rw [List.take_of_length_le (by omega)] at hp
    repeat' (first | (refine XL_id ?_; first | refine XL_nil ?_ | (refine XL_op tt_ok rfl rfl ?_; try (refine XL_dec_f (by omega) ?_))) | (refine X_id ?_; first | refine X_seq ?_ | refine X_region ?_ | refine X_ret ?_ | refine X_exit ?_ | refine X_cond_f rfl ?_) | (refine Y_id ?_; first | refine Y_then ?_ | refine Y_then_exit ?_ | refine Y_block_hit ?_))
    exact Y_fn2 rfl rfl rfl (by rw [pagesP_2 (by assumption), hp])
def encSp : Enc (Int × Int) := ⟨fun x => [.int .i64 x.1, .int .i64 x.2], 2, fun _ => rfl, by decide, fun x u hu => by simp at hu; rcases hu with rfl | rfl <;> rfl⟩
def spansP (l : List Rg) : List (Int × Int) × Int := if checkE l ≠ 0 then ([], checkE l) else (l.map fun r => (r.p, r.n), 0)
theorem spansP_1 {l : List Rg} (h : ¬ checkE l = 0) : spansP l = ([], checkE l) := if_pos h
theorem spansP_2 {l : List Rg} (h : ¬ ¬ checkE l = 0) : spansP l = (l.map fun r => (r.p, r.n), 0) := if_neg h
set_option maxRecDepth 100000 in
set_option maxHeartbeats 4000000 in
theorem spansOf_spec (A : Option Addr) (m c : Nat) (l : List Rg) (hm : m ≤ 9223372036854775807) (hl : ∀ r ∈ l, r.In) :
    Ctr Try.prog 35 [.slice A m c] (fun h => rdS encRg h A m l) [] (LRes encSp (spansP l).1 (.int .i64 (spansP l).2)) := by
  refine Ctr.intro Try.func35 rfl rfl (by decide +kernel) fun F hpre => ?_
  have r1 : rdS encRg F.heap A m l := hpre
  have hlen := r1.1
  have gd : checkE l = 0 → m ≤ 1024 ∧ ∀ r ∈ l, r.Ok := fun h => by have := checkE_good h; exact ⟨by omega, this.2⟩
  repeat' (first | (refine XL_id ?_; first | refine XL_nil ?_ | (refine XG_call ?_; first | (refine XL_op tt_ok rfl rfl ?_) | refine XL_fn (check_spec _ _ _ _ (by omega) (by assumption)) rfl rfl (fun g hg _ => rdS.le (by assumption) hg) ?_) | (refine XL_op tt_ok rfl rfl ?_; try (refine XL_dec (fun _ => ?_) (fun _ => ?_)))) | (refine X_id ?_; first | refine X_seq ?_ | refine X_region ?_ | refine X_skip ?_ | refine X_ret ?_ | refine X_block ?_ | refine X_cond_t rfl ?_ | refine X_cond_f rfl ?_) | (refine Y_id ?_; first | refine Y_then ?_ | refine Y_then_ret ?_))
  · exact Y_ret2 rfl rfl rfl (fin_nil encSp) ⟨⟨none, 0, 0, []⟩, by rw [spansP_1 (by assumption)], rfl, by rw [spansP_1 (by assumption)], rfl⟩
  have gd2 := gd (by omega)
  refine X_loopD2 [13, 14] (fun (i : Nat) (o : Ow (Int × Int)) => [(15, .int .i64 i), (5, o.v)]) (fun _ o => [o.own encSp]) (fun i o => i ≤ m ∧ o.xs = (l.take i).map (fun r => (r.p, r.n)) ∧ o.m = i) (fun i _ => m - i) 0 ⟨none, 0, 0, []⟩ rfl ⟨Nat.zero_le _, rfl, rfl⟩ (by (repeat' (first | exact trivial | refine And.intro rfl ?_)); done) (fun _ h => fin_nil encSp _ h) ?_
  intro i o hi
  obtain ⟨hi, hp, hom⟩ := hi
  by_cases hlt : i < m
  · repeat' (first | (refine XL_id ?_; first | refine XL_nil ?_ | (refine XG_load ?_; first | refine XL_load tt_ok 0 rfl rfl rfl rfl rfl rfl ?_ | refine XL_elW tt_ok rfl (by assumption) rfl (by omega) (by omega) rfl rfl rfl rfl ?_) | (refine XG_idx ?_; refine XL_idx tt_ok rfl rfl rfl rfl rfl (by assumption) (by omega) (by omega) rfl ?_) | (refine XG_build ?_; refine XL_build tt_ok rfl rfl rfl rfl rfl rfl rfl ?_) | (refine XG_call ?_; (refine XL_app1 tt_ok 2 0 ((Cof.get l i).p, (Cof.get l i).n) rfl rfl rfl rfl rfl rfl rfl rfl rfl rfl rfl (by show (_ : Nat) * 16 ≤ _; omega) (by omega) (fun _ _ => rfl) (fun A2 c2 => ?_))) | (refine XG_alloc ?_; refine XL_alloc tt_ok rfl rfl (fun _ => rfl) (fun b => ?_)) | (refine XG_lit ?_; refine XL_lit tt_ok rfl rfl rfl rfl rfl rfl rfl rfl rfl (fun _ => rfl) (fun b => ?_)) | (refine XG_store ?_; refine XL_storeW tt_ok 0 rfl rfl rfl rfl rfl rfl rfl ?_) | (refine XL_op tt_ok rfl rfl ?_; try (first | refine XL_int (wrap_i64 (by omega) (by omega)) ?_ | refine XL_dec_t (by omega) ?_))) | (refine X_id ?_; first | refine X_seq ?_ | refine X_region ?_ | refine X_skip ?_ | refine X_block ?_ | refine X_cond_t rfl ?_) | (refine Y_id ?_; first | refine Y_then ?_ | refine Y_block_normal ?_))
    exact Y_again (i + 1, ⟨A2, _, c2, _⟩) fun _ _ hf hs => ⟨⟨by show i + 1 ≤ m; omega, by rw [hp, take_snoc _ _ (by omega), List.map_append]; rfl, by rw [hom]⟩, by show m - (i + 1) < m - i; omega, hf.sub (by (repeat' (first | exact trivial | refine And.intro rfl ?_)); done), hs.imp fun h hs => stars_only [2] rfl h hs⟩
  · rw [List.take_of_length_le (by omega)] at hp
    repeat' (first | (refine XL_id ?_; first | refine XL_nil ?_ | (refine XL_op tt_ok rfl rfl ?_; try (refine XL_dec_f (by omega) ?_))) | (refine X_id ?_; first | refine X_seq ?_ | refine X_region ?_ | refine X_ret ?_ | refine X_exit ?_ | refine X_cond_f rfl ?_) | (refine Y_id ?_; first | refine Y_then ?_ | refine Y_then_exit ?_ | refine Y_block_hit ?_))
    exact Y_ret2 rfl rfl rfl (stars_only [0] rfl) ⟨o, by rw [spansP_2 (by assumption), hp], by rw [hp, List.length_map]; omega, by rw [spansP_2 (by assumption)], rfl⟩
end Go.Proofs.Ytpkffgbcebjhaaa
