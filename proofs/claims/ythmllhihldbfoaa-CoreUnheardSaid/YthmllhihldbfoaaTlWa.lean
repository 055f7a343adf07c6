/- Walks of the library's functions over slices of translations: IndexFunc, Delete, DeleteFunc, Clone, Reverse. -/
import Derived.Test.YthmllhihldbfoaaTlDefs
set_option linter.unusedVariables false
namespace Go.Proofs.Ythmllhihldbfoaa.Tl
open Go.RowKit Go.Cof

abbrev fnV (f : FuncId) (ca : Array Value) : Value := .func (.func f) #[] ca
set_option maxHeartbeats 4000000 in
theorem index_spec (A : Option Addr) (m c : Nat) (xs : List Tr) (f : FuncId) (ca : Array Value) (pre : Hp → Prop) (q : Tr → Bool) (hm : m ≤ 9223372036854775807) (hup : ∀ h g, Hp.le h g → pre h → pre g) (hq : ∀ x, FnC Try.prog f (trV x :: ca.toList) pre (.bool (q x))) :
    FnC Try.prog 52 [.slice A m c, fnV f ca] (fun h => rdS encTr h A m xs ∧ pre h) (.int .i64 (idxI q xs)) := by
  refine Ctr.intro Try.func52 rfl rfl (by decide +kernel) fun F hpre => ?_
  obtain ⟨r1, hp⟩ := hpre
  have hlen := r1.1
  have hfl := firstQ_le q xs
  repeat' (first | (refine XL_id ?_; first | refine XL_nil ?_ | (refine XL_op tt_ok rfl rfl ?_)) | (refine X_id ?_; first | refine X_seq ?_ | (refine X_regionN (by repeat' (exact .nil)) ?_) | refine X_block ?_) | (refine Y_id ?_; refine Y_then ?_))
  refine X_loopD [0, 1, 7] (fun (i : Nat) => [(8, .int .i64 i)]) (fun _ => []) (fun i => i ≤ m ∧ ∀ j : Nat, j < i → q (Cof.get xs j) = false) (fun i => m - i) 0 rfl ⟨Nat.zero_le _, fun j hj => by omega⟩ (by (repeat' (first | exact trivial | refine And.intro rfl ?_)); done) (fun _ h => h) ?_
  intro i hi
  obtain ⟨hi, hx⟩ := hi
  by_cases hlt : i < m
  · cases hqi : q (Cof.get xs i) with
    | true =>
      have e := firstQ_eq (i := i) (by omega) hx (fun _ => hqi)
      have hv := hq (Cof.get xs i)
      rw [hqi] at hv
      repeat' (first | (refine XL_id ?_; first | refine XL_nil ?_ | (refine XG_load ?_; refine XL_elW tt_ok rfl (by assumption) rfl (by omega) (by omega) rfl rfl rfl rfl ?_) | (refine XG_idx ?_; refine XL_idx tt_ok rfl rfl rfl rfl rfl (by assumption) (by omega) (by omega) rfl ?_) | (refine XG_call ?_; refine XL_fnV hv rfl rfl rfl rfl (fun g hg _ => hup _ _ hg hp) ?_) | (refine XL_op tt_ok rfl rfl ?_; try (refine XL_dec_t (by omega) ?_))) | (refine X_id ?_; first | refine X_seq ?_ | (refine X_regionN (by repeat' (exact .nil)) ?_) | refine X_skip ?_ | refine X_ret ?_ | refine X_block ?_ | refine X_cond_t rfl ?_) | (refine Y_id ?_; first | refine Y_then ?_ | refine Y_then_ret ?_ | refine Y_block_ret ?_))
      exact Y_fn1 rfl rfl (by unfold idxI; rw [e, if_pos (by omega)])
    | false =>
      have hv := hq (Cof.get xs i)
      rw [hqi] at hv
      repeat' (first | (refine XL_id ?_; first | refine XL_nil ?_ | (refine XG_load ?_; refine XL_elW tt_ok rfl (by assumption) rfl (by omega) (by omega) rfl rfl rfl rfl ?_) | (refine XG_idx ?_; refine XL_idx tt_ok rfl rfl rfl rfl rfl (by assumption) (by omega) (by omega) rfl ?_) | (refine XG_call ?_; refine XL_fnV hv rfl rfl rfl rfl (fun g hg _ => hup _ _ hg hp) ?_) | (refine XL_op tt_ok rfl rfl ?_; try (first | refine XL_int (wrap_i64 (by omega) (by omega)) ?_ | refine XL_dec_t (by omega) ?_))) | (refine X_id ?_; first | refine X_seq ?_ | (refine X_regionN (by repeat' (exact .nil)) ?_) | refine X_skip ?_ | refine X_block ?_ | refine X_cond_t rfl ?_ | refine X_cond_f rfl ?_) | (refine Y_id ?_; first | refine Y_then ?_ | refine Y_block_normal ?_))
      exact Y_again (i + 1) fun _ _ hf hs => ⟨⟨by omega, fun j hj => by
        by_cases hj2 : j < i
        · exact hx j hj2
        · obtain rfl : j = i := by omega
          exact hqi⟩, by omega, hf.sub (by (repeat' (first | exact trivial | refine And.intro rfl ?_)); done), hs⟩
  · obtain rfl : i = m := by omega
    have e := firstQ_eq (l := xs) (i := i) (by omega) hx (fun _ => by omega)
    repeat' (first | (refine XL_id ?_; first | refine XL_nil ?_ | (refine XL_op tt_ok rfl rfl ?_; try (refine XL_dec_f (by omega) ?_))) | (refine X_id ?_; first | refine X_seq ?_ | (refine X_regionN (by repeat' (exact .nil)) ?_) | refine X_ret ?_ | refine X_exit ?_ | refine X_cond_f rfl ?_) | (refine Y_id ?_; first | refine Y_then ?_ | refine Y_then_exit ?_ | refine Y_block_hit ?_))
    exact Y_fn1 rfl rfl (by unfold idxI; rw [e, if_neg (by omega)])
theorem erase_eq {α : Type} (xs : List α) (i : Nat) : xs.take i ++ xs.drop (i + 1) = xs.eraseIdx i := (List.eraseIdx_eq_take_drop_succ ..).symm
set_option maxHeartbeats 4000000 in
/-- One is taken out. -/
theorem delete_spec (b m c : Nat) (xs : List Tr) (i : Nat) (hm : m ≤ 100000) (hi : i < m) :
    Ctr Try.prog 36 [.slice (some ⟨b, 0, none⟩) m c, .int .i64 i, .int .i64 ((i : Int) + 1)] (fun _ => True) [own encTr (some ⟨b, 0, none⟩) m c xs] (fun v L => v = .slice (some ⟨b, 0, none⟩) (m - 1) c ∧ L = [own encTr (some ⟨b, 0, none⟩) (m - 1) c (xs.eraseIdx i)]) := by
  refine Ctr.intro Try.func36 rfl rfl (by decide +kernel) fun F hpre => ?_
  refine X_fact 0 rfl (fun _ o => own_len o) fun hlen => ?_
  obtain ⟨hl, hc1, hc2⟩ := hlen
  have e2 : i + (m - (i + 1)) = m - 1 := by omega
  have e3 : xs.drop (i + 1 + 0) = xs.drop (i + 1) := rfl
  have htl : xs.take m = xs := List.take_of_length_le (by omega)
  have hfin : ∀ ys zs g, own encTr (some ⟨b, 0, none⟩) m c ((xs.take i ++ xs.drop (i + 1) ++ xs.drop (m - 1)).take (m - 1) ++ ys ++ zs) g → own encTr (some ⟨b, 0, none⟩) (m - 1) c (xs.eraseIdx i) g := fun ys zs g hg => by
    have h1 := own_take hg (m - 1) (by omega)
    have h2 : (xs.take i ++ xs.drop (i + 1)).length = m - 1 := by rw [List.length_append, List.length_take, List.length_drop]; omega
    rw [List.append_assoc, List.take_append_of_le_length (by rw [List.length_take, List.length_append]; omega), List.take_take, Nat.min_self, List.take_append_of_le_length (by omega), List.take_of_length_le (by omega), erase_eq] at h1
    exact h1
  repeat' (first | (refine XL_id ?_; first | refine XL_nil ?_ | (refine XG_slice ?_; first | refine XL_slicel tt_ok rfl rfl rfl rfl (.lohimx (by omega) (by omega) (by omega) (by omega)) (by omega) rfl rfl rfl rfl ?_ | refine XL_slicel tt_ok rfl rfl rfl rfl (.lohi (by omega) (by omega) (by omega)) (by omega) rfl rfl rfl rfl ?_) | (refine XG_call ?_; first | (refine XL_op tt_ok rfl rfl ?_) | (refine XL_appC (q := i) (m' := m - (i + 1)) (ys := xs.drop (i + 1)) (E := encTr) tt_ok 0 rfl rfl (fun w hs => by obtain ⟨g, hg, _, hA⟩ := hs.at (k := 0) rfl; have h1 := ((own_rd hA).le hg).sub (l := i + 1) (k := m) (cc := c) (by omega) (by omega) (by omega); rw [htl] at h1; exact h1) (by omega) rfl rfl rfl rfl rfl rfl ?_; rw [e2]) | refine XL_clear tt_ok 0 (m - 1) tr0 rfl rfl ?_ (by omega) rfl rfl rfl rfl rfl rfl rfl ?_) | (refine XL_op tt_ok rfl rfl ?_; try (refine XL_dec_f (by omega) ?_))) | (refine XD_id ?_; first | (refine XD_thaw thaw ?_; refine XD_nil ?_) | (refine XD_id ?_; ((refine XD_u rfl rfl ?_; first | refine XD_s rfl rfl rfl (XV_op tt_ok rfl) rfl ?_ | refine XD_s rfl rfl rfl (XV_slicel tt_ok rfl rfl rfl rfl (.hi (by omega) (by omega)) (by omega) rfl rfl rfl) rfl ?_ | refine XD_s rfl rfl rfl (XV_slice tt_ok rfl rfl rfl rfl (.lo (by omega) (by omega)) rfl rfl rfl) rfl ?_))) | refine XD_m rfl rfl ?_) | (refine X_id ?_; first | (refine X_drawS (id := 5) [0, 1, 2, 3, 4, 5, 6, 7] (fun | 6 => .m | _ => .s) 8 (by (repeat apply Split.blk); apply Split.keep; repeat' (exact Split.nil)) mixed (by decide +kernel) ?_; intro G hFG hM thaw; show XD _ _ _ _ _ _ [0, 1, 2, 3, 4, 5, 6, 7] _ _ _) | refine X_seq ?_ | (refine X_regionN (by repeat' (first | exact .nil | apply NL.cons)) ?_) | refine X_skip ?_ | refine X_ret ?_ | refine X_cond_f rfl ?_) | (refine Y_id ?_; first | refine Y_then ?_ | refine Y_m ?_))
  · show 0 + (m - 1) * 6 = (m - 1) * 6
    omega
  · exact Y_ret1 rfl rfl (stars_fin [0] rfl fun h hs => hfin _ _ _ (stars_own hs)) ⟨rfl, rfl⟩
theorem filter_take_first {q : Tr → Bool} {xs : List Tr} (h : firstQ q xs < xs.length) : (xs.take (firstQ q xs + 1)).filter (fun x => !q x) = xs.take (firstQ q xs) := by
  rw [take_snoc' xs _ h, List.filter_append]
  have h1 : (xs.take (firstQ q xs)).filter (fun x => !q x) = xs.take (firstQ q xs) := by
    refine List.filter_eq_self.2 fun x hx => ?_
    obtain ⟨j, hj, rfl⟩ := List.getElem_of_mem hx
    rw [List.length_take] at hj
    have hb := firstQ_before (q := q) (l := xs) (j := j) (by omega)
    rw [List.getElem_take, ← get_getElem (by omega), hb]
    rfl
  rw [h1, List.filter_cons_of_neg (by rw [firstQ_lt h]; decide), List.filter_nil, List.append_nil]
theorem filter_none {q : Tr → Bool} {xs : List Tr} (h : ¬ firstQ q xs < xs.length) : xs.filter (fun x => !q x) = xs := by
  have h1 := firstQ_le q xs
  have h2 := firstQ_none.1 (show firstQ q xs = xs.length by omega)
  exact List.filter_eq_self.2 fun x hx => by rw [h2 x hx]; rfl
set_option maxHeartbeats 8000000 in
/-- All of a kind are taken out. -/
theorem deleteFunc_spec (A : Option Addr) (m c : Nat) (xs : List Tr) (f : FuncId) (ca : Array Value) (pre : Hp → Prop) (q : Tr → Bool) (hm : m ≤ 100000) (hup : ∀ h g, Hp.le h g → pre h → pre g) (hq : ∀ x, FnC Try.prog f (trV x :: ca.toList) pre (.bool (q x))) :
    Ctr Try.prog 63 [.slice A m c, fnV f ca] pre [own encTr A m c xs] (fun v L => v = .slice A (xs.filter fun x => !q x).length c ∧ L = [own encTr A (xs.filter fun x => !q x).length c (xs.filter fun x => !q x)]) := by
  have hix := index_spec A m c xs f ca pre q (by omega) hup hq
  refine Ctr.intro Try.func63 rfl rfl (by decide +kernel) fun F hpre => ?_
  refine X_fact 0 rfl (fun _ o => own_len o) fun hlen => ?_
  obtain ⟨hl, hc1, hc2⟩ := hlen
  by_cases hf : firstQ q xs < xs.length
  · have hft := filter_take_first hf
    rw [show idxI q xs = (firstQ q xs : Int) from if_pos hf] at hix
    refine X_fact 0 rfl (fun _ o => own_some o (by omega)) fun hq2 => ?_
    obtain ⟨b, rfl⟩ := hq2
    repeat' (first | (refine XL_id ?_; first | refine XL_nil ?_ | (refine XG_call ?_; refine XL_fn hix rfl rfl (fun g hg hL => ⟨rd_at 0 rfl hL, hup _ _ hg hpre⟩) ?_) | (refine XL_op tt_ok rfl rfl ?_; try (first | refine XL_int (wrap_i64 (by omega) (by omega)) ?_ | refine XL_dec_f (by omega) ?_))) | (refine X_id ?_; first | refine X_seq ?_ | (refine X_regionN (by repeat' (first | exact .nil | apply NL.cons)) ?_) | refine X_skip ?_ | refine X_block ?_ | refine X_cond_f rfl ?_) | (refine Y_id ?_; refine Y_then ?_))
    refine X_loopD3 [0, 1] (fun (j i : Nat) (ys : List Tr) => [(6, .int .i64 j), (5, .int .i64 i)]) (fun j i ys => [own encTr (some ⟨b, 0, none⟩) m c ys]) (fun j i ys => j ≤ m ∧ i < j ∧ ys.length = m ∧ ys.take i = (xs.take j).filter (fun x => !q x) ∧ ys.drop j = xs.drop j ∧ i = ((xs.take j).filter (fun x => !q x)).length) (fun j _ _ => m - j) (firstQ q xs + 1) (firstQ q xs) xs rfl ⟨by omega, by omega, hl.symm, hft.symm, rfl, by rw [hft, List.length_take]; omega⟩ (by (repeat' (first | exact trivial | refine And.intro rfl ?_)); done) (fun _ h => h) ?_
    intro j i ys hi
    obtain ⟨hj, hij, hyl, hyt, hyd, hil⟩ := hi
    by_cases hlt : j < m
    · have hgj : Cof.get ys j = Cof.get xs j := by
        have h1 : (ys.drop j)[0]? = (xs.drop j)[0]? := by rw [hyd]
        rw [List.getElem?_drop, List.getElem?_drop, Nat.add_zero, List.getElem?_eq_getElem (by omega), List.getElem?_eq_getElem (by omega), Option.some.injEq] at h1
        rw [get_getElem (by omega), get_getElem (by omega), h1]
      have hv := hq (Cof.get ys j)
      have hsn := take_snoc' xs j (by omega)
      cases hqj : q (Cof.get ys j) with
      | true =>
        rw [hqj] at hv
        rw [hgj] at hqj
        have hfl : (xs.take (j + 1)).filter (fun x => !q x) = (xs.take j).filter (fun x => !q x) := by
          rw [hsn, List.filter_append, List.filter_cons_of_neg (by rw [hqj]; decide), List.filter_nil, List.append_nil]
        repeat' (first | (refine XL_id ?_; first | refine XL_nil ?_ | (refine XG_load ?_; first | refine XL_loadW tt_ok 0 rfl rfl rfl rfl rfl rfl ?_ | refine XL_eloW tt_ok 0 rfl rfl rfl (by omega) (by omega) rfl rfl rfl rfl ?_) | (refine XG_idx ?_; refine XL_idxo tt_ok 0 rfl rfl rfl rfl rfl rfl (by omega) (by omega) rfl ?_) | (refine XG_alloc ?_; refine XL_alloc (et := 60) tt_ok rfl rfl (fun _ => rfl) (fun ax => ?_)) | (refine XG_call ?_; first | (refine XL_op tt_ok rfl rfl ?_) | refine XL_fnV hv rfl rfl rfl rfl (fun g hg _ => hup _ _ hg hpre) ?_) | (refine XG_store ?_; (refine XL_storeW tt_ok 0 rfl rfl rfl rfl rfl rfl rfl ?_; refine XL_nK 0 rfl (by repeat' (first | exact .nil | apply NL.cons)) ?_)) | (refine XL_op tt_ok rfl rfl ?_; try (first | refine XL_int (wrap_i64 (by omega) (by omega)) ?_ | refine XL_dec_t (by omega) ?_))) | (refine X_id ?_; first | refine X_seq ?_ | (refine X_regionN (by repeat' (first | exact .nil | apply NL.cons)) ?_) | refine X_skip ?_ | refine X_block ?_ | refine X_cond_t rfl ?_ | refine X_cond_f rfl ?_) | (refine Y_id ?_; first | refine Y_then ?_ | refine Y_block_normal ?_))
        all_goals first
          | exact Y_again (j + 1, i, ys) fun _ _ hf hs => ⟨⟨by show j + 1 ≤ m; omega, by show i < j + 1; omega, hyl, by rw [hfl]; exact hyt, by rw [← List.drop_drop, ← List.drop_drop, hyd], by rw [hfl]; exact hil⟩, by show m - (j + 1) < m - j; omega, hf.sub (by (repeat' (first | exact trivial | refine And.intro rfl ?_)); done), hs.imp fun h hs => stars_only [1] rfl h hs⟩
          | skip
        
      | false =>
        rw [hqj] at hv
        have hqj2 := hqj
        rw [hgj] at hqj
        have hfl : (xs.take (j + 1)).filter (fun x => !q x) = (xs.take j).filter (fun x => !q x) ++ [Cof.get xs j] := by
          rw [hsn, List.filter_append, List.filter_cons_of_pos (by rw [hqj]; decide), List.filter_nil]
        repeat' (first | (refine XL_id ?_; first | refine XL_nil ?_ | (refine XL_ldW (i := j) tt_ok 0 rfl rfl (by show 0 + _ * 6 = _ * 6; omega) (by omega) rfl rfl rfl rfl ?_) | (refine XG_load ?_; refine XL_loadW tt_ok 0 rfl rfl rfl rfl rfl rfl ?_) | (refine XG_idx ?_; refine XL_idxl tt_ok rfl rfl rfl rfl rfl (by omega) (by omega) rfl ?_) | (refine XG_alloc ?_; refine XL_alloc (et := 60) tt_ok rfl rfl (fun _ => rfl) (fun ax => ?_)) | (refine XG_call ?_; first | (refine XL_op tt_ok rfl rfl ?_) | refine XL_fnV hv rfl rfl rfl rfl (fun g hg _ => hup _ _ hg hpre) ?_) | (refine XG_store ?_; first | (refine XL_putW (i := i) tt_ok 1 (Cof.get ys j) rfl rfl (by show 0 + _ * 6 = _ * 6; omega) rfl rfl rfl (by omega) ?_) | (refine XL_storeW tt_ok 0 rfl rfl rfl rfl rfl rfl rfl ?_; refine XL_nK 0 rfl (by repeat' (first | exact .nil | apply NL.cons)) ?_)) | (refine XL_op tt_ok rfl rfl ?_; try (first | refine XL_int (wrap_i64 (by omega) (by omega)) ?_ | refine XL_dec_t (by omega) ?_))) | (refine X_id ?_; first | refine X_seq ?_ | (refine X_regionN (by repeat' (first | exact .nil | apply NL.cons)) ?_) | refine X_skip ?_ | refine X_block ?_ | refine X_cond_t rfl ?_) | (refine Y_id ?_; first | refine Y_then ?_ | refine Y_block_normal ?_))
        all_goals first
          | exact Y_again (j + 1, i + 1, ys.set i (Cof.get ys j)) fun _ _ hf hs => ⟨⟨by show j + 1 ≤ m; omega, by show i + 1 < j + 1; omega, by rw [List.length_set]; exact hyl, by rw [hfl, ← hyt, take_snoc' _ i (by rw [List.length_set]; omega), get_set (by omega), if_pos rfl, hgj, List.take_set_of_le (Nat.le_refl _)], by rw [List.drop_set_of_lt (by omega), ← List.drop_drop, ← List.drop_drop, hyd], by rw [hfl, List.length_append, ← hil]; rfl⟩, by show m - (j + 1) < m - j; omega, hf.sub (by (repeat' (first | exact trivial | refine And.intro rfl ?_)); done), hs.imp fun h hs => stars_only [1] rfl h hs⟩
          | skip
        
    · obtain rfl : j = m := by omega
      have hxt : xs.take j = xs := List.take_of_length_le (by omega)
      rw [hxt] at hyt hil
      have hfin : ∀ us zs g, own encTr (some ⟨b, 0, none⟩) j c (ys.take i ++ us ++ zs) g → own encTr (some ⟨b, 0, none⟩) (xs.filter fun x => !q x).length c (xs.filter fun x => !q x) g := fun us zs g hg => by
        have h1 := own_take hg i (by omega)
        have h2 : (ys.take i).length = i := by rw [List.length_take]; omega
        rw [List.append_assoc, List.take_append_of_le_length (by omega), List.take_take, Nat.min_self, hyt, hil] at h1
        exact h1
      rw [← hil]
      rw [← hil] at hfin
      repeat' (first | (refine XL_id ?_; first | refine XL_nil ?_ | (refine XG_slice ?_; first | refine XL_slicel tt_ok rfl rfl rfl rfl (.lo (by omega) (by omega)) (by omega) rfl rfl rfl rfl ?_ | refine XL_slicel tt_ok rfl rfl rfl rfl (.hi (by omega) (by omega)) (by omega) rfl rfl rfl rfl ?_) | (refine XG_call ?_; first | (refine XL_op tt_ok rfl rfl ?_) | refine XL_clear tt_ok 0 i tr0 rfl rfl ?_ (by omega) rfl rfl rfl rfl rfl rfl rfl ?_) | (refine XL_op tt_ok rfl rfl ?_; try (refine XL_dec_f (by omega) ?_))) | (refine X_id ?_; first | refine X_seq ?_ | (refine X_regionN (by repeat' (first | exact .nil | apply NL.cons)) ?_) | refine X_ret ?_ | refine X_exit ?_ | refine X_cond_f rfl ?_) | (refine Y_id ?_; first | refine Y_then ?_ | refine Y_then_exit ?_ | refine Y_block_hit ?_))
      · show 0 + i * 6 = i * 6
        omega
      · exact Y_ret1 rfl rfl (stars_fin [0] rfl fun h hs => hfin _ _ _ (stars_own hs)) ⟨rfl, rfl⟩
  · have hfn := filter_none hf
    rw [show idxI q xs = -1 from if_neg hf] at hix
    rw [hfn, ← hl]
    repeat' (first | (refine XL_id ?_; first | refine XL_nil ?_ | (refine XG_call ?_; refine XL_fn hix rfl rfl (fun g hg hL => ⟨rd_at 0 rfl hL, hup _ _ hg hpre⟩) ?_) | (refine XL_op tt_ok rfl rfl ?_; try (refine XL_dec_t (by omega) ?_))) | (refine X_id ?_; first | refine X_seq ?_ | (refine X_regionN (by repeat' (first | exact .nil | apply NL.cons)) ?_) | refine X_ret ?_ | refine X_cond_t rfl ?_) | (refine Y_id ?_; first | refine Y_then ?_ | refine Y_then_ret ?_))
    all_goals exact Y_ret1 rfl rfl (fun _ h => h) ⟨rfl, rfl⟩
end Go.Proofs.Ythmllhihldbfoaa.Tl
