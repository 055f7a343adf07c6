/- Held blocks; awake. -/
import Derived.Test.YtkcpjgdmfjhlkaaPd
set_option linter.unusedVariables false
namespace Go.Proofs.Ytkcpjgdmfjhlkaa
open Go.RowKit Go.Cof

abbrev Hb := Int × Int
def encH : Enc Hb := ⟨fun x => [iV x.1, iV x.2], 2, fun _ => rfl, by decide, fun x u hu => by simp at hu; rcases hu with rfl | rfl <;> rfl⟩
def outI {α : Type} (k : Int) (l : List α) : Nat → List α
  | 0 => []
  | n + 1 => outI k l n ++ (if (n : Int) = k then [] else (l[n]?).toList)
theorem outI_len {α : Type} {k : Int} {l : List α} : ∀ {n : Nat}, (outI k l n).length ≤ n
  | 0 => Nat.le_refl _
  | n + 1 => by
    have := outI_len (k := k) (l := l) (n := n)
    rw [outI, List.length_append]
    split
    · rw [List.length_nil]; omega
    · have : (l[n]?).toList.length ≤ 1 := by cases l[n]? <;> simp
      omega
theorem outI_mem {α : Type} {k : Int} {l : List α} {x : α} : ∀ {n : Nat}, x ∈ outI k l n → x ∈ l
  | 0, h => by cases h
  | n + 1, h => by
    rw [outI, List.mem_append] at h
    rcases h with h | h
    · exact outI_mem h
    · split at h
      · cases h
      · cases e : l[n]? with
        | none => rw [e] at h; cases h
        | some y => rw [e] at h; simp at h; subst h; exact List.mem_of_getElem? e
theorem outI_era {α : Type} {k : Nat} {l : List α} : ∀ {n : Nat}, n ≤ l.length → outI (k : Int) l n = (l.take n).eraseIdx k
  | 0, _ => by simp [outI]
  | n + 1, hn => by
    have ih := outI_era (k := k) (l := l) (n := n) (by omega)
    have ht : l.take (n + 1) = l.take n ++ [l[n]] := List.take_succ_eq_append_getElem (by omega)
    rw [outI, ih, ht]
    by_cases e : n = k
    · subst e
      rw [if_pos rfl, List.append_nil, List.eraseIdx_of_length_le (by rw [List.length_take]; omega)]
      rw [List.eraseIdx_append_of_length_le (by rw [List.length_take]; omega), List.length_take, Nat.min_eq_left (by omega), Nat.sub_self]
      simp
    · rw [if_neg (by omega), List.getElem?_eq_getElem (by omega)]
      by_cases h : k < n
      · rw [List.eraseIdx_append_of_lt_length (by rw [List.length_take]; omega)]; rfl
      · rw [List.eraseIdx_append_of_length_le (by rw [List.length_take]; omega), List.length_take, Nat.min_eq_left (by omega)]
        obtain ⟨m, hm⟩ : ∃ m, k - n = m + 1 := ⟨k - n - 1, by omega⟩
        rw [hm, List.eraseIdx_of_length_le (l := [l[n]]) (by simp), List.eraseIdx_of_length_le (by rw [List.length_take]; omega)]; rfl
set_option maxHeartbeats 4000000 in
theorem without_spec (A : Option Addr) (m c : Nat) (hs : List Hb) (k : Int) (hm : m ≤ 1000) : Ctr Try.prog 24 [.slice A m c, iV k] (fun h => rdS encH h A m hs) [] (fun v L => ∃ A' m' c', v = .slice A' m' c' ∧ L = [own encH A' m' c' (outI k hs m)]) := by
  refine Ctr.intro Try.func24 rfl rfl (by decide +kernel) fun F hpre => ?_
  have r1 : rdS encH F.heap A m hs := hpre
  have hl := r1.1
  repeat' (first | (refine XL_id ?_; first | refine XL_nil ?_ | (refine XL_op tt_ok rfl rfl ?_)) | (refine X_id ?_; first | refine X_block (id := 0) (hold ?_) | refine X_seq ?_ | (refine X_regionN (by repeat' (exact .nil)) ?_)) | (refine Y_id ?_; refine Y_then ?_))
  intro _
  refine X_loopD4 [0, 1] (fun (i : Nat) (A2 : Option Addr) (m2 c2 : Nat) => [(6, .int .i64 i), (5, .slice A2 m2 c2)]) (fun i A2 m2 c2 => [own encH A2 m2 c2 (outI k hs i)]) (fun i _ m2 _ => i ≤ m) (fun i _ _ _ => m - i) 0 none 0 0 rfl (Nat.zero_le _) (by (repeat' (first | exact trivial | refine And.intro rfl ?_)); done) (fun h hs => stars_new (own_nil _ _) hs) ?_
  intro i A2 m2 c2 hi
  have hi : i ≤ m := hi
  refine X_fact 0 rfl (fun _ o => own_len o) fun hlen => ?_
  obtain ⟨hl2, _, _⟩ := hlen
  have hol := outI_len (k := k) (l := hs) (n := i)
  by_cases hlt : i < m
  · by_cases hk : (i : Int) = k
    · have he : outI k hs (i + 1) = outI k hs i := by rw [outI, if_pos hk, List.append_nil]
      repeat' (first | (refine XL_id ?_; first | refine XL_nil ?_ | (refine XL_op tt_ok rfl rfl ?_; try (first | refine XL_int (wrap_i64 (by omega) (by omega)) ?_ | refine XL_dec_t (by omega) ?_ | refine XL_dec_f (by omega) ?_))) | (refine X_id ?_; first | refine X_seq ?_ | (refine X_regionN (by repeat' (first | exact .nil | apply NL.cons)) ?_) | refine X_skip ?_ | refine X_block ?_ | refine X_cond_t rfl ?_ | refine X_cond_f rfl ?_) | (refine Y_id ?_; first | refine Y_then ?_ | refine Y_block_normal ?_))
      all_goals first
        | exact Y_again (i + 1, A2, m2, c2) fun _ _ hf hs => ⟨hlt, by show m - (i + 1) < m - i; omega, hf.sub (by (repeat' (first | exact trivial | refine And.intro rfl ?_)); done), hs.imp fun g hg => by rw [he]; exact hg⟩
        | (exfalso; omega)
        | skip
      
    · have he : outI k hs (i + 1) = outI k hs i ++ [Cof.get hs (i : Int)] := by rw [outI, if_neg hk, List.getElem?_eq_getElem (by omega), ← get_getElem (by omega)]; rfl
      repeat' (first | (refine XL_id ?_; first | refine XL_nil ?_ | (refine XG_load ?_; refine XL_elW tt_ok rfl (by assumption) rfl (by omega) (by omega) rfl rfl rfl rfl ?_) | (refine XG_idx ?_; refine XL_idx tt_ok rfl rfl rfl rfl rfl (by assumption) (by omega) (by omega) rfl ?_) | (refine XG_call ?_; first | (refine XL_op tt_ok rfl rfl ?_) | (refine XL_app1 (E := encH) tt_ok 1 0 (Cof.get hs (i : Int)) rfl rfl rfl rfl rfl rfl rfl rfl rfl rfl rfl (by show (_ : Nat) * 16 ≤ _; omega) (by omega) (fun _ _ => rfl) (fun A3 c3 => ?_))) | (refine XG_lit ?_; (refine XL_lit tt_ok rfl rfl rfl rfl rfl rfl rfl rfl rfl (fun _ => rfl) (fun b => ?_); refine XL_nB (by repeat' (first | exact .nil | apply NL.cons)) ?_)) | (refine XL_op tt_ok rfl rfl ?_; try (first | refine XL_int (wrap_i64 (by omega) (by omega)) ?_ | refine XL_dec_t (by omega) ?_))) | (refine X_id ?_; first | refine X_seq ?_ | (refine X_regionN (by repeat' (first | exact .nil | apply NL.cons)) ?_) | refine X_skip ?_ | refine X_block ?_ | refine X_cond_t rfl ?_) | (refine Y_id ?_; first | refine Y_then ?_ | refine Y_block_normal ?_))
      all_goals first
        | exact Y_again (i + 1, A3, m2 + 1, c3) fun _ _ hf hs => ⟨hlt, by show m - (i + 1) < m - i; omega, hf.sub (by (repeat' (first | exact trivial | refine And.intro rfl ?_)); done), hs.imp fun g hg => by rw [he]; exact stars_only [1] rfl g hg⟩
        | (exfalso; omega)
        | skip
      
  · obtain rfl : i = m := by omega
    repeat' (first | (refine XL_id ?_; first | refine XL_nil ?_ | (refine XL_op tt_ok rfl rfl ?_; try (refine XL_dec_f (by omega) ?_))) | (refine X_id ?_; first | refine X_seq ?_ | (refine X_regionN (by repeat' (first | exact .nil | apply NL.cons)) ?_) | refine X_ret ?_ | refine X_exit ?_ | refine X_cond_f rfl ?_) | (refine Y_id ?_; first | refine Y_then ?_ | refine Y_then_exit ?_ | refine Y_block_hit ?_))
    all_goals first
      | exact Y_ret1 rfl rfl (fun h hs => hs) ⟨A2, m2, c2, rfl, rfl⟩
      | (exfalso; omega)
      | skip
    
set_option maxHeartbeats 4000000 in
theorem dropped_spec (A : Option Addr) (m c : Nat) (hs : List Hb) (a : Int) (hm : m ≤ 1000) : Ctr Try.prog 15 [.slice A m c, iV a] (fun h => True) [own encH A m c hs] (fun v L => ∃ A' m' c' hs', v = .slice A' m' c' ∧ L = [own encH A' m' c' hs'] ∧ m' ≤ m ∧ ∀ x ∈ hs', x ∈ hs) := by
  refine Ctr.intro Try.func15 rfl rfl (by decide +kernel) fun F hpre => ?_
  refine X_fact 0 rfl (fun _ o => own_len o) fun hlen => ?_
  obtain ⟨hl, _, _⟩ := hlen
  repeat' (first | (refine XL_id ?_; first | refine XL_nil ?_ | (refine XL_op tt_ok rfl rfl ?_)) | (refine X_id ?_; first | refine X_block (id := 0) (hold ?_) | refine X_seq ?_ | (refine X_regionN (by repeat' (first | exact .nil | apply NL.cons)) ?_)) | (refine Y_id ?_; refine Y_then ?_))
  intro _
  refine X_loopD [0, 1] (fun (i : Nat) => [(5, .int .i64 i)]) (fun _ => [own encH A m c hs]) (fun i => i ≤ m) (fun i => m - i) 0 rfl (Nat.zero_le _) (by (repeat' (first | exact trivial | refine And.intro rfl ?_)); done) (fun _ h => h) ?_
  intro i hi
  have hi : i ≤ m := hi
  by_cases hlt : i < m
  · have hwo := without_spec A m c hs (i : Int) hm
    have hol := outI_len (k := (i : Int)) (l := hs) (n := m)
    repeat' (first | (refine XL_id ?_; first | refine XL_nil ?_ | (refine XG_load ?_; refine XL_elo tt_ok 0 rfl rfl rfl (by omega) (by omega) rfl rfl rfl rfl ?_) | (refine XG_idx ?_; first | refine XL_idxa tt_ok rfl rfl rfl rfl rfl (by omega) (by omega) rfl ?_ | refine XL_idxo tt_ok 0 rfl rfl rfl rfl rfl rfl (by omega) (by omega) rfl ?_) | (refine XG_call ?_; first | (refine XL_op tt_ok rfl rfl ?_) | (refine XL_callK [] hwo rfl rfl (fun _ => rfl) (fun g hg hL => rd_at 0 rfl hL) (fun u L hv => ?_); obtain ⟨A2, m2, c2, rfl, rfl⟩ := hv; refine XL_fact 0 rfl (fun _ o => (own_len o).1) (fun hm2 => ?_))) | (refine XL_op tt_ok rfl rfl ?_; try (first | refine XL_int (wrap_i64 (by omega) (by omega)) ?_ | refine XL_dec_t (by omega) ?_ | refine XL_dec (fun _ => ?_) (fun _ => ?_)))) | (refine X_id ?_; first | refine X_seq ?_ | (refine X_regionN (by repeat' (first | exact .nil | apply NL.cons)) ?_) | refine X_skip ?_ | refine X_ret ?_ | refine X_block ?_ | refine X_cond_t rfl ?_ | refine X_cond_f rfl ?_) | (refine Y_id ?_; first | refine Y_then ?_ | refine Y_then_ret ?_ | refine Y_block_normal ?_ | refine Y_block_ret ?_))
    all_goals first
      | exact Y_ret1 rfl rfl (fun g hg => stars_only [0] rfl g hg) ⟨A2, m2, c2, _, rfl, rfl, by omega, fun x hx => outI_mem hx⟩
      | exact Y_again (i + 1) fun _ _ hf hs => ⟨hlt, by show m - (i + 1) < m - i; omega, hf.sub (by (repeat' (first | exact trivial | refine And.intro rfl ?_)); done), hs⟩
      | (exfalso; omega)
      | skip
    
  · repeat' (first | (refine XL_id ?_; first | refine XL_nil ?_ | (refine XL_op tt_ok rfl rfl ?_; try (refine XL_dec_f (by omega) ?_))) | (refine X_id ?_; first | refine X_seq ?_ | (refine X_regionN (by repeat' (first | exact .nil | apply NL.cons)) ?_) | refine X_ret ?_ | refine X_exit ?_ | refine X_cond_f rfl ?_) | (refine Y_id ?_; first | refine Y_then ?_ | refine Y_then_exit ?_ | refine Y_block_hit ?_))
    all_goals first
      | exact Y_ret1 rfl rfl (fun h hs => hs) ⟨A, m, c, hs, rfl, rfl, Nat.le_refl _, fun x hx => hx⟩
      | (exfalso; omega)
      | skip
    
theorem ls5 : lsF (allO 5) = [[4], [], [0], [], [], [], []] := by decide +kernel
theorem ls4 : lsF (setN (allO 5) 4 1 false) = [[], [], [0], [], [], [], []] := by decide +kernel
theorem ls3 : lsF (setN (setN (allO 5) 4 1 false) 0 1 false) = [[1], [2], [], [], [], [], []] := by decide +kernel
theorem takeAt (p n : Nat) (op : List Bool) (fs : List (List Int)) (tk : Int → Option Int) (o k a : Nat) (l : List (List Int)) (hl : lsF op = l) (hn : op.length ≤ 4096) (hb : BOk op fs) (hok6 : k ≤ 6) (hok1 : o ≤ k) (he : ∀ j : Nat, o ≤ j → j < k → Cof.get l (j : Int) = []) (hne : Cof.get l (k : Int) ≠ []) (ha : Cof.get (Cof.get l (k : Int)) 0 = a) :
    Ctr Try.prog 11 [ptr p, iV o] (fun _ => True) [isBd p n fs tk] (fun v L => ∃ gs, BOk (setN op a (2 ^ o) false) gs ∧ v = .tuple #[iV a, iV 0] ∧ L = [isBd p n gs (updI tk a (some o))]) := by
  subst hl
  rw [← hb.fs] at he hne ha
  exact takeOk_spec p n op fs tk o k a hn hb hok6 hok1 he hne ha
theorem lists_is (p n : Nat) (fs : List (List Int)) (tk : Int → Option Int) : Ctr Try.prog 25 [ptr p] (fun _ => True) [isBd p n fs tk] (fun v L => ∃ q : In (In Int), q.xs.map In.xs = fs ∧ v = slV q ∧ L = [isLl q, isBd p n fs tk]) := by
  refine ⟨(lists_spec p n (List.replicate 7 []) tk ⟨List.replicate 7 q0, 0⟩ ok0).1, fun F w _ hs => ?_⟩
  obtain ⟨g, h1, h2, h3⟩ := hs.own
  obtain ⟨k1, k2, d', a', b', ⟨y, hy, hM⟩, hR⟩ := h3
  have hs2 : St F w ([] ++ bdM p n tk y) := ⟨hs.os, hs.tape, hs.output, hs.size, hs.frz, g, h1, h2, stars_up hM a'⟩
  refine (Ctr.call (A := []) (R := bdM p n tk y) (lists_spec p n fs tk y hy) hs2 (fun g hg hL => hL)).mono fun e w' ⟨v, L', he, ⟨q, hq, hv, hL⟩, hs'⟩ => ⟨v, [isLl q, isBd p n fs tk], he, ⟨q, hq, hv, rfl⟩, ?_⟩
  subst hL
  refine hs'.imp fun g hg => ?_
  have h5 : stars (isBd p n fs tk :: [isLl q]) g := stars_shut (isBd_mk hy) (stars_take [1, 1, 1] rfl hg)
  exact stars_swap h5
theorem he4 : ∀ j : Nat, 0 ≤ j → j < 2 → Cof.get ([[], [], [0], [], [], [], []] : List (List Int)) (j : Int) = [] := fun j _ h => by
  match j, h with
  | 0, _ => rfl
  | 1, _ => rfl
theorem row_at {q : In (In Int)} {fs : List (List Int)} {op : List Bool} {l : List (List Int)} (hq : q.xs.map In.xs = fs) (hb : BOk op fs) (hl : lsF op = l) {j : Nat} (hj : j < 7) : (Cof.get q.xs (j : Int)).xs = Cof.get l (j : Int) := by
  have h7 : q.xs.length = 7 := by rw [← List.length_map (f := In.xs), hq, hb.pl.len]
  rw [← hl, ← hb.fs, ← hq, get_map In.xs (by omega)]
theorem allI_at {L : List HProp} (k : Nat) {l : List (In Int)} (hk : L[k]? = some (allI encN l)) {g : Hp} (hL : stars L g) {i : Nat} (hi : i < l.length) {xs : List Int} (hx : (Cof.get l (i : Int)).xs = xs) : rdS encN g (Cof.get l (i : Int)).A (Cof.get l (i : Int)).m xs := by
  obtain ⟨g1, hl, hb⟩ := at_mem k hk hL
  rw [← hx]
  exact (allI_rd hb hi).le hl
theorem giveAt (p n : Nat) (op : List Bool) (fs : List (List Int)) (tk : Int → Option Int) (a : Nat) (hn : op.length ≤ 4096) (hb : BOk op fs) (hl : a + 1 ≤ op.length) (hc : op.getD a false = false) (ht : tk a = some (0 : Int)) :
    Ctr Try.prog 13 [ptr p, iV a, iV 0] (fun _ => True) [isBd p n fs tk] (fun v L => ∃ gs, BOk (setN op a 1 true) gs ∧ v = iV 0 ∧ L = [isBd p n gs (updI tk a none)]) :=
  giveOk_spec p n op fs tk 0 a hn hb (by decide) (Nat.one_dvd _) hl (fun i h1 h2 h => by
    have h2 : i < a + 1 := h2
    obtain rfl : i = a := by omega
    have h : op.getD i false = true := h
    rw [hc] at h; cases h) ht
set_option maxHeartbeats 8000000 in
theorem awake_spec : FnC Try.prog 9 [] (fun _ => True) (.bool true) := by
  refine Ctr.intro Try.func9 rfl rfl (by decide +kernel) fun F hpre => ?_
  repeat' (first | (refine XL_id ?_; first | refine XL_nil ?_ | refine XL_guard_yes rfl rfl rfl ?_ | (refine XG_load ?_; first | refine XL_elo tt_ok 1 rfl rfl rfl (by omega) (by omega) rfl rfl rfl rfl ?_ | refine XL_elo tt_ok 2 rfl rfl rfl (by omega) (by omega) rfl rfl rfl rfl ?_) | (refine XG_idx ?_; first | refine XL_idxo tt_ok 1 rfl rfl rfl rfl rfl rfl (by omega) (by omega) rfl ?_ | refine XL_idxo tt_ok 2 rfl rfl rfl rfl rfl rfl (by omega) (by omega) rfl ?_) | (refine XG_call ?_; first | (refine XL_op tt_ok rfl rfl ?_) | (refine XL_callK [] (new_spec 5 (by decide)) rfl rfl (fun _ => rfl) (fun _ _ _ => trivial) (fun u L hv => ?_); obtain ⟨p, f5, hb5, rfl, rfl⟩ := hv) | (refine XL_callK [0] (takeAt p 5 (allO 5) f5 _ 0 0 4 _ ls5 (by decide) hb5 (by decide) (by decide) (fun j h1 h2 => by omega) (by decide) (by decide)) rfl rfl (fun _ => rfl) (fun _ _ _ => trivial) (fun u L hv => ?_); obtain ⟨f4, hb4, rfl, rfl⟩ := hv) | (refine XL_callK [0] (takeAt p 5 (setN (allO 5) 4 1 false) f4 _ 0 2 0 _ ls4 (by decide) hb4 (by decide) (by decide) he4 (by decide) (by decide)) rfl rfl (fun _ => rfl) (fun _ _ _ => trivial) (fun u L hv => ?_); obtain ⟨f3, hb3, rfl, rfl⟩ := hv) | (refine XL_callK [0] (lists_is p 5 f3 _) rfl rfl (fun _ => rfl) (fun _ _ _ => trivial) (fun u L hv => ?_); obtain ⟨q, hq, rfl, rfl⟩ := hv; refine XL_fact 0 rfl (fun h hs => hs.1) (fun hfit => ?_); obtain ⟨hq7, hqf⟩ := hfit; refine XL_mem (fun h hs => isLl_flat hs) ?_; refine XL_fact 0 rfl (fun _ o => (own_len o).1) (fun hql => ?_); have hx0 := row_at hq hb3 ls3 (j := 0) (by decide); have hx1 := row_at hq hb3 ls3 (j := 1) (by decide)) | (refine XL_callK [2] (giveAt p 5 (setN (setN (allO 5) 4 1 false) 0 1 false) f3 _ 4 (by decide) hb3 (by decide) (by decide) (by rfl)) rfl rfl (fun _ => rfl) (fun _ _ _ => trivial) (fun u L hv => ?_); obtain ⟨f6, hb6, rfl, rfl⟩ := hv) | (refine XL_callK [0] (giveAt p 5 (setN (setN (setN (allO 5) 4 1 false) 0 1 false) 4 1 true) f6 _ 0 (by decide) hb6 (by decide) (by decide) (by rfl)) rfl rfl (fun _ => rfl) (fun _ _ _ => trivial) (fun u L hv => ?_); obtain ⟨f7, hb7, rfl, rfl⟩ := hv) | (refine XL_fn (eqInts_spec (Cof.get q.xs ((0 : Nat) : Int)).A _ (Cof.get q.xs ((0 : Nat) : Int)).m (Cof.get q.xs ((0 : Nat) : Int)).c 1 1 [1] [1] (by have := hqf _ (get_mem' (l := q.xs) (i := ((0 : Nat) : Int)) (by omega) (by omega)); omega) (by decide)) rfl rfl (fun g hg hL => ⟨by first | exact allI_at 3 rfl hL (by omega) hx0 | exact allI_at 4 rfl hL (by omega) hx0, blk_rdS (blk_at 0 rfl hL) rfl rfl⟩) ?_) | (refine XL_fn (eqInts_spec (Cof.get q.xs ((1 : Nat) : Int)).A _ (Cof.get q.xs ((1 : Nat) : Int)).m (Cof.get q.xs ((1 : Nat) : Int)).c 1 1 [2] [2] (by have := hqf _ (get_mem' (l := q.xs) (i := ((1 : Nat) : Int)) (by omega) (by omega)); omega) (by decide)) rfl rfl (fun g hg hL => ⟨by exact allI_at 4 rfl hL (by omega) hx1, blk_rdS (blk_at 0 rfl hL) rfl rfl⟩) ?_) | refine XL_callE [2] (whole_is p (setN (setN (setN (setN (allO 5) 4 1 false) 0 1 false) 4 1 true) 0 1 true) f7 _ (by decide) hb7) rfl rfl rfl (fun _ _ _ => trivial) ?_ | refine XL_callE [0] (free_is p 5 (setN (setN (setN (setN (allO 5) 4 1 false) 0 1 false) 4 1 true) 0 1 true) f7 _ (by decide) hb7) rfl rfl rfl (fun _ _ _ => trivial) ?_) | (refine XG_lit ?_; (refine XL_lit tt_ok rfl rfl rfl rfl rfl rfl rfl rfl rfl (fun _ => rfl) (fun b => ?_); refine XL_nB (by repeat' (first | exact .nil | apply NL.cons)) ?_)) | (refine XL_op tt_ok rfl rfl ?_; try (first | refine XL_dec_t (by omega) ?_ | refine XL_dec_t (by decide +kernel) ?_))) | (refine X_id ?_; first | refine X_seq ?_ | (refine X_regionN (by repeat' (first | exact .nil | apply NL.cons)) ?_) | refine X_ret ?_) | (refine Y_id ?_; refine Y_then ?_))
  all_goals first
    | exact Y_fn1 rfl rfl rfl
    | skip
  
end Go.Proofs.Ytkcpjgdmfjhlkaa
