/- AddrFew: order and cuts do not count. -/
import Derived.Test.YtgoebgefhgffcaaLb
set_option linter.unusedVariables false
namespace Go.Proofs.Ytgoebgefhgffcaa
open Go.RowKit Go.Cof

theorem tabsF_ok {l : List Sp} (h : (tabsF l).2 = 0) : l.length ≤ 1024 ∧ (∀ s ∈ l, s.May) ∧ tabsF l = ((total l : Int), 0) := by
  unfold tabsF at h ⊢
  by_cases h1 : 1024 < l.length
  · rw [if_pos h1] at h; cases h
  · rw [if_neg h1] at h ⊢
    by_cases h2 : ∀ s ∈ l, s.May
    · rw [if_pos h2]; exact ⟨by omega, h2, rfl⟩
    · rw [if_neg h2] at h; cases h
theorem tabsF_of {l : List Sp} (h1 : l.length ≤ 1024) (h2 : ∀ s ∈ l, s.May) : tabsF l = ((total l : Int), 0) := by
  unfold tabsF; rw [if_neg (by omega), if_pos h2]
theorem cut_total (l : List Sp) (s : Sp) (a : Int) (h0 : 0 ≤ s.p) (ha : 0 ≤ a ∧ a ≤ s.n) : total (s :: l.reverse) = total ((Sp.mk (s.p + a) (s.n - a) :: l.reverse) ++ [⟨s.p, a⟩]) := by
  refine total_ext fun D hD k => ?_
  have hc := Cv.cut hD h0 ha (k := k)
  unfold Cv
  constructor
  · rintro ⟨t, ht, h⟩
    rcases List.mem_cons.1 ht with rfl | ht
    · rcases hc.1 h with h | h
      · exact ⟨_, List.mem_append_left _ List.mem_cons_self, h⟩
      · exact ⟨_, List.mem_append_right _ (List.mem_singleton.2 rfl), h⟩
    · exact ⟨t, List.mem_append_left _ (List.mem_cons_of_mem _ ht), h⟩
  · rintro ⟨t, ht, h⟩
    rcases List.mem_append.1 ht with ht | ht
    · rcases List.mem_cons.1 ht with rfl | ht
      · exact ⟨s, List.mem_cons_self, hc.2 (.inl h)⟩
      · exact ⟨t, List.mem_cons_of_mem _ ht, h⟩
    · rw [List.mem_singleton.1 ht] at h
      exact ⟨s, List.mem_cons_self, hc.2 (.inr h)⟩
theorem drop_rev {l : List Sp} {j : Nat} (h : j < l.length) : (l.drop j).reverse = (l.drop (j + 1)).reverse ++ [Cof.get l (j : Int)] := by
  rw [List.drop_eq_getElem_cons h, List.reverse_cons, get_getElem h]
theorem cut_may {s : Sp} {a : Int} (h : s.May) (ha : 0 ≤ a ∧ a ≤ s.n) : (Sp.mk (s.p + a) (s.n - a)).May ∧ (Sp.mk s.p a).May := by
  obtain ⟨h0, h1, h2, h3⟩ := h
  exact ⟨⟨by show 0 ≤ s.p + a; omega, by show 0 ≤ s.n - a; omega, by show s.p + a ≤ 1048576; omega, by show s.n - a ≤ 1048576 - (s.p + a); omega⟩, ⟨h0, ha.1, h2, by show a ≤ 1048576 - s.p; omega⟩⟩
theorem may64 {s : Sp} (h : s.May) : i64In s.p ∧ i64In s.n := by
  obtain ⟨h0, h1, h2, h3⟩ := h
  exact ⟨⟨by omega, by omega⟩, ⟨by omega, by omega⟩⟩
theorem total_cap (l : List Sp) : 1 ≤ total l ∧ total l ≤ 33825 := by
  have h1 := marks_cap 32 32768 l
  have h2 := marks_cap 1024 1024 l
  have h3 := marks_cap 32768 32 l
  unfold total; omega
set_option maxRecDepth 100000 in
set_option maxHeartbeats 8000000 in
theorem addrFew_walk (A : Option Addr) (m c : Nat) (l : List Sp) (s : Sp) (at' : Int) (hm : m ≤ 8796093022200) (hl : ∀ s ∈ l, i64In s.p ∧ i64In s.n) (hs : i64In s.p ∧ i64In s.n) (hat : i64In at') : FnC Try.prog 6 [.slice A m c, .agg #[iV s.p, iV s.n], iV at'] (fun h => rdS encSp h A m l) (.bool true) := by
  refine Ctr.intro Try.func6 rfl rfl (by decide +kernel) fun F hpre => ?_
  have r1 : rdS encSp F.heap A m l := hpre
  have hlen := r1.1
  have hr := tables_spec A m c l hl (by omega)
  have ho : ∀ (B : Option Addr), FnC Try.prog 21 [.slice B 1 1] (fun h => rdS encSp h B 1 [s]) (pr2 (iV (tabsF [s]).1) (iV (tabsF [s]).2)) := fun B => tables_spec B 1 1 [s] (fun t ht => by rw [List.mem_singleton.1 ht]; exact hs) (by decide)
  by_cases hok : (tabsF l).2 = 0 ∧ (tabsF [s]).2 = 0 ∧ m ≤ 100
  · obtain ⟨e0, e1, h100⟩ := hok
    obtain ⟨_, hmay, eL⟩ := tabsF_ok e0
    obtain ⟨_, hmay1, eS⟩ := tabsF_ok e1
    have hsm := hmay1 s (List.mem_singleton.2 rfl)
    obtain ⟨g0, g1, g2, g3⟩ := hsm
    rw [eL] at hr
    rw [eS] at ho
    obtain ⟨N0, hN0⟩ : ∃ N0, total l = N0 := ⟨_, rfl⟩
    obtain ⟨N1, hN1⟩ : ∃ N1, total [s] = N1 := ⟨_, rfl⟩
    have cap0 := total_cap l
    have cap1 := total_cap [s]
    rw [hN0] at hr cap0
    rw [hN1] at ho cap1
    obtain ⟨a, hae⟩ : ∃ a : Int, (if (if s.n < at' then s.n else at') > 0 then (if s.n < at' then s.n else at') else 0) = a := ⟨_, rfl⟩
    have ha : 0 ≤ a ∧ a ≤ s.n := by rw [← hae]; split <;> split <;> omega
    repeat' (first | (refine XL_id ?_; first | refine XL_nil ?_ | refine XL_guard_yes rfl rfl rfl ?_ | (refine XG_box ?_; (refine XL_box rfl (fun _ => rfl) (fun bx => ?_); refine XL_nB (by repeat' (first | exact .nil | apply NL.cons)) ?_)) | (refine XG_lit ?_; (refine XL_lit tt_ok rfl rfl rfl rfl rfl rfl rfl rfl rfl (fun _ => rfl) (fun bl => ?_); refine XL_nB (by repeat' (first | exact .nil | apply NL.cons)) ?_)) | (refine XG_load ?_; first | refine XL_loadW tt_ok 0 rfl rfl rfl rfl rfl rfl ?_ | refine XL_loadW tt_ok 1 rfl rfl rfl rfl rfl rfl ?_ | refine XL_load tt_ok 1 rfl rfl rfl rfl rfl rfl ?_ | refine XL_load tt_ok 2 rfl rfl rfl rfl rfl rfl ?_) | (refine XG_build ?_; (refine XL_build tt_ok rfl rfl rfl rfl rfl rfl rfl ?_; refine XL_aggN (by repeat' (first | exact .nil | apply NL.cons)) ?_)) | (refine XG_call ?_; first | (refine XL_op tt_ok rfl rfl ?_; refine XL_int hae ?_) | (refine XL_op tt_ok rfl rfl ?_) | refine XL_fn works_spec rfl rfl (fun _ _ _ => trivial) ?_ | refine XL_fn hr rfl rfl (fun g hg hL => r1.le hg) ?_ | refine XL_fn (ho _) rfl rfl (fun g hg hL => blk_rdS (blk_at 0 rfl hL) rfl rfl) ?_) | (refine XL_op tt_ok rfl rfl ?_; try (first | refine XL_int (wrap_i64 (by omega) (by omega)) ?_ | refine XL_dec_f (by omega) ?_))) | (refine X_id ?_; first | refine X_block (id := 0) (hold ?_) | refine X_seq ?_ | (refine X_regionN (by repeat' (first | exact .nil | apply NL.cons)) ?_) | refine X_skip ?_ | refine X_cond_f rfl ?_) | (refine Y_id ?_; refine Y_then ?_))
    all_goals first
      | (exfalso; omega)
      | skip
    intro _
    rename_i b0 b1 _
    refine X_mem (fun _ hh => stars_take [1, 0] rfl hh) ?_
    refine X_mem (fun _ hh => stars_conv (k := 0) (B := own encSp (some ⟨b1, 0, none⟩) 1 1 [s]) rfl (fun h o => own_of_blk o rfl rfl (by decide)) hh) ?_
    refine X_mem (fun _ hh => stars_conv (k := 1) (B := own encSp (some ⟨bl, 0, none⟩) 1 1 [⟨s.p + a, s.n - a⟩]) rfl (fun h o => own_of_blk o rfl rfl (by decide)) hh) ?_
    have hmt : ∀ t ∈ (s :: l.reverse), t.May := fun t ht => by
      rcases List.mem_cons.1 ht with rfl | ht
      · exact ⟨g0, g1, g2, g3⟩
      · exact hmay t (List.mem_reverse.1 ht)
    have hct := cut_may (s := s) ⟨g0, g1, g2, g3⟩ ha
    have hmc : ∀ t ∈ ((Sp.mk (s.p + a) (s.n - a) :: l.reverse) ++ [⟨s.p, a⟩]), t.May := fun t ht => by
      rcases List.mem_append.1 ht with ht | ht
      · rcases List.mem_cons.1 ht with rfl | ht
        · exact hct.1
        · exact hmay t (List.mem_reverse.1 ht)
      · rw [List.mem_singleton.1 ht]; exact hct.2
    have et : tabsF (s :: l.reverse) = ((total (s :: l.reverse) : Int), 0) := tabsF_of (by simp; omega) hmt
    have ec : tabsF ((Sp.mk (s.p + a) (s.n - a) :: l.reverse) ++ [⟨s.p, a⟩]) = ((total (s :: l.reverse) : Int), 0) := by
      rw [cut_total l s a g0 ha]; exact tabsF_of (by simp; omega) hmc
    have hmono : N0 ≤ total (s :: l.reverse) := by rw [← hN0]; exact total_mono fun t ht => List.mem_cons_of_mem _ (List.mem_reverse.2 ht)
    have hadd : total (s :: l.reverse) + 1 ≤ N0 + N1 := by
      rw [← hN0, ← hN1]
      exact total_add fun t ht => by
        rcases List.mem_cons.1 ht with rfl | ht
        · exact .inr List.mem_cons_self
        · exact .inl (List.mem_reverse.1 ht)
    have ht2 : ∀ (B : Option Addr) (k q : Nat), FnC Try.prog 21 [.slice B k q] (fun h => rdS encSp h B k (s :: l.reverse)) (pr2 (iV (tabsF (s :: l.reverse)).1) (iV (tabsF (s :: l.reverse)).2)) := fun B k q => by
      by_cases hk : k ≤ 9223372036854775807
      · exact tables_spec B k q _ (fun t ht => may64 (hmt t ht)) hk
      · exact ⟨(tables_spec B 0 q [] (fun t ht => by cases ht) (by decide)).1.elim fun fn h => ⟨fn, h⟩, fun F w hh => absurd (show k ≤ 9223372036854775807 by have := hh.1; simp at this; omega) hk⟩
    have ht3 : ∀ (B : Option Addr) (k q : Nat), FnC Try.prog 21 [.slice B k q] (fun h => rdS encSp h B k ((Sp.mk (s.p + a) (s.n - a) :: l.reverse) ++ [⟨s.p, a⟩])) (pr2 (iV (tabsF ((Sp.mk (s.p + a) (s.n - a) :: l.reverse) ++ [⟨s.p, a⟩])).1) (iV (tabsF ((Sp.mk (s.p + a) (s.n - a) :: l.reverse) ++ [⟨s.p, a⟩])).2)) := fun B k q => by
      by_cases hk : k ≤ 9223372036854775807
      · exact tables_spec B k q _ (fun t ht => may64 (hmc t ht)) hk
      · exact ⟨(tables_spec B 0 q [] (fun t ht => by cases ht) (by decide)).1.elim fun fn h => ⟨fn, h⟩, fun F w hh => absurd (show k ≤ 9223372036854775807 by have := hh.1; simp at this; omega) hk⟩
    rw [et] at ht2
    rw [ec] at ht3
    obtain ⟨N2, hN2⟩ : ∃ N2, total (s :: l.reverse) = N2 := ⟨_, rfl⟩
    rw [hN2] at ht2 ht3 hmono hadd
    have cap2 := total_cap (s :: l.reverse)
    rw [hN2] at cap2
    refine X_loopD4 [0, 2, 4, 7, 8, 9, 10] (fun (j : Nat) (x : Option Addr × Nat × Nat) (y : Option Addr) (q : Nat) => [(13, .int .i64 ((j : Int) - 1)), (11, .slice x.1 x.2.2 x.2.1), (12, .slice y x.2.2 q)]) (fun j x y q => [own encSp x.1 x.2.2 x.2.1 (s :: (l.drop j).reverse), own encSp y x.2.2 q (⟨s.p + a, s.n - a⟩ :: (l.drop j).reverse), blk bx [iV s.p, iV s.n] 39]) (fun j x _ _ => j ≤ m ∧ x.2.2 = m - j + 1) (fun j _ _ _ => j) m (some ⟨b1, 0, none⟩, 1, 1) (some ⟨bl, 0, none⟩) 1 rfl ⟨Nat.le_refl _, by show 1 = m - m + 1; omega⟩ (by (repeat' (first | exact trivial | refine And.intro rfl ?_)); done) (fun h hs => by rw [List.drop_of_length_le (by omega)]; exact stars_only [0, 0, 1] rfl h hs) ?_
    intro j x y q hjx
    obtain ⟨A1, c1, k1⟩ := x
    obtain ⟨hj, hk1⟩ := hjx
    replace hk1 : k1 = m - j + 1 := hk1
    dsimp only
    cases j with
    | zero =>
      rw [show (l.drop 0) = l from rfl]
      repeat' (first | (refine XL_id ?_; first | refine XL_nil ?_ | refine XL_guard_yes rfl rfl rfl ?_ | (refine XL_fact 2 rfl (fun _ o => (own_len o).1) (fun hlm => ?_); refine XL_app1 (E := encSp) tt_ok 2 0 (Sp.mk s.p a) rfl rfl rfl rfl rfl rfl rfl rfl rfl rfl rfl (by show (_ : Nat) * 16 ≤ _; omega) (by omega) (fun _ _ => rfl) (fun A3 c3 => ?_)) | (refine XG_load ?_; refine XL_load tt_ok 2 rfl rfl rfl rfl rfl rfl ?_) | (refine XG_build ?_; (refine XL_build tt_ok rfl rfl rfl rfl rfl rfl rfl ?_; refine XL_aggN (by repeat' (first | exact .nil | apply NL.cons)) ?_)) | (refine XG_call ?_; first | refine XL_fn (ht2 _ _ _) rfl rfl (fun g hg hL => rd_at 1 rfl hL) ?_ | refine XL_fn (ht3 _ _ _) rfl rfl (fun g hg hL => rd_at 2 rfl hL) ?_) | (refine XG_lit ?_; (refine XL_lit tt_ok rfl rfl rfl rfl rfl rfl rfl rfl rfl (fun _ => rfl) (fun b => ?_); refine XL_nB (by repeat' (first | exact .nil | apply NL.cons)) ?_)) | (refine XL_op tt_ok rfl rfl ?_; try (first | refine XL_int (wrap_i64 (by omega) (by omega)) ?_ | refine XL_dec_t (by omega) ?_ | refine XL_dec_f (by omega) ?_))) | (refine X_id ?_; first | refine X_seq ?_ | (refine X_regionN (by repeat' (first | exact .nil | apply NL.cons)) ?_) | refine X_ret ?_ | refine X_exit ?_ | refine X_cond_f rfl ?_) | (refine Y_id ?_; first | refine Y_then ?_ | refine Y_then_exit ?_ | refine Y_block_hit ?_))
      all_goals first
        | exact Y_fn1 rfl rfl rfl
        | (exfalso; omega)
        | skip
      
    | succ j =>
      have hj1 : ((j + 1 : Nat) : Int) - 1 = (j : Int) := by omega
      have hdr := drop_rev (l := l) (j := j) (by omega)
      rw [← hj1] at hdr
      repeat' (first | (refine XL_id ?_; first | refine XL_nil ?_ | (refine XL_fact 1 rfl (fun _ o => (own_len o).1) (fun hlm => ?_); refine XL_app1 (E := encSp) tt_ok 1 0 (Cof.get l (((j + 1 : Nat) : Int) - 1)) rfl rfl rfl rfl rfl rfl rfl rfl rfl rfl rfl (by show (_ : Nat) * 16 ≤ _; omega) (by omega) (fun _ _ => rfl) (fun A3 c3 => ?_)) | (refine XL_fact 3 rfl (fun _ o => (own_len o).1) (fun hlm => ?_); refine XL_app1 (E := encSp) tt_ok 3 0 (Cof.get l (((j + 1 : Nat) : Int) - 1)) rfl rfl rfl rfl rfl rfl rfl rfl rfl rfl rfl (by show (_ : Nat) * 16 ≤ _; omega) (by omega) (fun _ _ => rfl) (fun A3 c3 => ?_)) | (refine XG_load ?_; refine XL_elW tt_ok rfl (by assumption) rfl (by omega) (by omega) rfl rfl rfl rfl ?_) | (refine XG_idx ?_; refine XL_idx tt_ok rfl rfl rfl rfl rfl (by assumption) (by omega) (by omega) rfl ?_) | (refine XG_lit ?_; (refine XL_lit tt_ok rfl rfl rfl rfl rfl rfl rfl rfl rfl (fun _ => rfl) (fun b => ?_); refine XL_nB (by repeat' (first | exact .nil | apply NL.cons)) ?_)) | (refine XL_op tt_ok rfl rfl ?_; try (first | refine XL_int (wrap_i64 (by omega) (by omega)) ?_ | refine XL_dec_t (by omega) ?_))) | (refine X_id ?_; first | refine X_seq ?_ | (refine X_regionN (by repeat' (first | exact .nil | apply NL.cons)) ?_) | refine X_skip ?_ | refine X_block ?_ | refine X_cond_t rfl ?_) | (refine Y_id ?_; first | refine Y_then ?_ | refine Y_block_normal ?_))
      rename_i A3 c3 _ _ A4 c4
      have e13 : ((j + 1 : Nat) : Int) - 1 - 1 = (j : Int) - 1 := by omega
      rw [e13]
      all_goals first
        | exact Y_again (j, (A4, c4, k1 + 1), A3, c3) fun _ _ hf hs => ⟨⟨by omega, by show k1 + 1 = m - j + 1; omega⟩, by show j < j + 1; omega, hf.sub (by (repeat' (first | exact trivial | refine And.intro rfl ?_)); done), hs.imp fun g hg => by (show stars [own encSp A4 (k1 + 1) c4 (s :: (l.drop j).reverse), own encSp A3 (k1 + 1) c3 (⟨s.p + a, s.n - a⟩ :: (l.drop j).reverse), blk bx [iV s.p, iV s.n] 39] g; rw [hdr]; exact stars_only [2, 2, 2] rfl g hg)⟩
        | (exfalso; omega)
        | skip
      
  · obtain ⟨N0, hN0⟩ : ∃ N0, (tabsF l).1 = N0 := ⟨_, rfl⟩
    obtain ⟨E0, hE0⟩ : ∃ E0, (tabsF l).2 = E0 := ⟨_, rfl⟩
    obtain ⟨N1, hN1⟩ : ∃ N1, (tabsF [s]).1 = N1 := ⟨_, rfl⟩
    obtain ⟨E1, hE1⟩ : ∃ E1, (tabsF [s]).2 = E1 := ⟨_, rfl⟩
    rw [hN0, hE0] at hr
    rw [hN1, hE1] at ho
    rw [hE0, hE1] at hok
    repeat' (first | (refine XL_id ?_; first | refine XL_nil ?_ | refine XL_guard_yes rfl rfl rfl ?_ | refine XL_guard_no rfl rfl rfl rfl rfl ?_ | (refine XG_load ?_; refine XL_loadW tt_ok 0 rfl rfl rfl rfl rfl rfl ?_) | (refine XG_box ?_; (refine XL_box rfl (fun _ => rfl) (fun _ => ?_); refine XL_nB (by repeat' (first | exact .nil | apply NL.cons)) ?_)) | (refine XG_call ?_; first | (refine XL_op tt_ok rfl rfl ?_) | refine XL_fn works_spec rfl rfl (fun _ _ _ => trivial) ?_ | refine XL_fn hr rfl rfl (fun g hg hL => r1.le hg) ?_ | refine XL_fn (ho _) rfl rfl (fun g hg hL => blk_rdS (blk_at 0 rfl hL) rfl rfl) ?_) | (refine XG_lit ?_; (refine XL_lit tt_ok rfl rfl rfl rfl rfl rfl rfl rfl rfl (fun _ => rfl) (fun b => ?_); refine XL_nB (by repeat' (first | exact .nil | apply NL.cons)) ?_)) | (refine XL_op tt_ok rfl rfl ?_; try (first | refine XL_dec_t (by omega) ?_ | refine XL_dec (fun _ => ?_) (fun _ => ?_)))) | (refine X_id ?_; first | refine X_seq ?_ | (refine X_regionN (by repeat' (first | exact .nil | apply NL.cons)) ?_) | refine X_skip ?_ | refine X_ret ?_ | refine X_cond_t rfl ?_ | refine X_cond_f rfl ?_) | (refine Y_id ?_; first | refine Y_then ?_ | refine Y_then_ret ?_))
    all_goals first
      | exact Y_fn1 rfl rfl rfl
      | (exfalso; omega)
      | skip
    
end Go.Proofs.Ytgoebgefhgffcaa
