/- Walks of the laws' helpers: spare, kept; Page told as a list. -/
import Derived.Test.YtookjknlfkmemaaRb
set_option linter.unusedVariables false
namespace Go.Proofs.Ytookjknlfkmemaa
open Go.RowKit Go.Cof

def marks : List Int := (List.range 20).map fun i : Nat => (200 + (i : Int))
theorem marks_len : marks.length = 20 := rfl
theorem marks_at {i : Nat} (h : i < 20) : Cof.get marks i = 200 + (i : Int) := by
  have : ∀ i : Nat, i < 20 → Cof.get marks i = 200 + (i : Int) := by decide
  exact this i h
theorem take_snoc {α : Type} [Inhabited α] (xs : List α) (i : Nat) (h : i < xs.length) : xs.take (i + 1) = xs.take i ++ [Cof.get xs i] := by
  have := Cof.get_some (xs := xs) (i := (i : Int)) (by omega) (by omega)
  rw [Int.toNat_natCast] at this
  rw [List.take_add_one, this]
  rfl
theorem app_get {α : Type} [Inhabited α] {xs ys : List α} {i : Nat} : Cof.get (xs ++ ys) (i : Int) = if i < xs.length then Cof.get xs i else Cof.get ys ((i - xs.length : Nat) : Int) := by
  unfold Cof.get
  rw [Int.toNat_natCast, Int.toNat_natCast, List.getD_eq_getElem?_getD, List.getD_eq_getElem?_getD, List.getD_eq_getElem?_getD]
  split
  · rw [List.getElem?_append_left (by assumption)]
  · rw [List.getElem?_append_right (by omega)]
set_option maxRecDepth 100000 in
set_option maxHeartbeats 4000000 in
theorem spare_spec (A : Option Addr) (m c : Nat) (xs : List Int) (hm : m ≤ 140737488351232) : Ctr Try.prog 41 [.slice A m c] (fun h => rdS (encI .u8) h A m xs) [] (fun v L => ∃ x : Option Addr × Nat, v = .slice x.1 m x.2 ∧ m + 20 ≤ x.2 ∧ L = [own (encI .u8) x.1 (m + 20) x.2 (xs ++ marks)]) := by
  refine Ctr.intro Try.func41 rfl rfl (by decide +kernel) fun F hpre => ?_
  have r1 : rdS (encI .u8) F.heap A m xs := hpre
  have hl1 := r1.1
  refine X_mem (fun _ hs => stars_new (own_nil (encI .u8) _) hs) ?_
  repeat' (first | (refine XL_id ?_; first | refine XL_nil ?_ | (refine XG_call ?_; (refine XL_appF tt_ok 0 rfl rfl r1 rfl rfl rfl rfl rfl rfl rfl (by show (_ : Nat) * 1 ≤ _; omega) (by omega) (fun _ _ => rfl) (fun A1 c1 => ?_))) | (refine XL_op tt_ok rfl rfl ?_)) | (refine X_id ?_; first | refine X_seq ?_ | (refine X_regionN (by repeat' (first | exact .nil | apply NL.cons)) ?_) | refine X_block ?_) | (refine Y_id ?_; refine Y_then ?_))
  refine X_loopD3 [0] (fun (i : Nat) (A1 : Option Addr) (c1 : Nat) => [(4, .int .i64 i), (3, .slice A1 (m + i) c1)]) (fun i A1 c1 => [own (encI .u8) A1 (m + i) c1 (xs ++ marks.take i)]) (fun i A1 c1 => i ≤ 20) (fun i _ _ => 20 - i) 0 A1 c1 rfl (Nat.zero_le _) (by refine And.intro rfl (And.intro ?_ trivial); show some (Value.slice A1 (0 + m) c1) = some (Value.slice A1 (m + 0) c1); rw [Nat.zero_add, Nat.add_zero]) (fun h hs => by rw [List.take_zero, List.append_nil, Nat.add_zero]; rw [Nat.zero_add, List.nil_append] at hs; exact hs) ?_
  intro i A1 c1 hi
  have hi : i ≤ 20 := hi
  by_cases hlt : i < 20
  · have e : marks.take (i + 1) = marks.take i ++ [200 + (i : Int)] := by rw [take_snoc marks i (by exact hlt), marks_at hlt]
    repeat' (first | (refine XL_id ?_; first | refine XL_nil ?_ | (refine XG_call ?_; (refine XL_app1 tt_ok 1 0 (200 + (i : Int)) rfl rfl rfl rfl rfl rfl rfl rfl rfl rfl rfl (by show (_ : Nat) * 1 ≤ _; omega) (by omega) (fun _ _ => rfl) (fun A2 c2 => ?_))) | (refine XG_lit ?_; (refine XL_lit tt_ok rfl rfl rfl rfl rfl rfl rfl rfl rfl (fun _ => rfl) (fun b => ?_); refine XL_nB (by repeat' (first | exact .nil | apply NL.cons)) ?_)) | (refine XL_op tt_ok rfl rfl ?_; try (first | refine XL_int (wrap_i64 (by omega) (by omega)) ?_ | refine XL_int (wrap_u8 (by omega) (by omega)) ?_ | refine XL_dec_t (by omega) ?_))) | (refine X_id ?_; first | refine X_seq ?_ | (refine X_regionN (by repeat' (first | exact .nil | apply NL.cons)) ?_) | refine X_skip ?_ | refine X_block ?_ | refine X_cond_t rfl ?_) | (refine Y_id ?_; first | refine Y_then ?_ | refine Y_block_normal ?_))
    exact Y_again (i + 1, A2, c2) fun _ _ hf hs => ⟨by show i + 1 ≤ 20; omega, by show 20 - (i + 1) < 20 - i; omega, hf.sub (by (repeat' (first | exact trivial | refine And.intro rfl ?_)); done), hs.imp fun h hs => by show stars [own (encI .u8) A2 (m + (i + 1)) c2 (xs ++ marks.take (i + 1))] h; rw [e, ← List.append_assoc]; exact stars_only [1] rfl h hs⟩
  · obtain rfl : i = 20 := by omega
    refine X_fact 0 rfl (fun _ o => own_len o) fun hlen => ?_
    repeat' (first | (refine XL_id ?_; first | refine XL_nil ?_ | (refine XG_slice ?_; refine XL_slice0 tt_ok rfl rfl rfl (.hi (by omega) (by omega)) rfl rfl rfl rfl ?_) | (refine XL_op tt_ok rfl rfl ?_; try (refine XL_dec_f (by omega) ?_))) | (refine X_id ?_; first | refine X_seq ?_ | (refine X_regionN (by repeat' (first | exact .nil | apply NL.cons)) ?_) | refine X_ret ?_ | refine X_exit ?_ | refine X_cond_f rfl ?_) | (refine Y_id ?_; first | refine Y_then ?_ | refine Y_then_exit ?_ | refine Y_block_hit ?_))
    exact Y_ret1 rfl rfl (stars_only [0] rfl) ⟨(A1, c1), rfl, hlen.2.1, rfl⟩
set_option maxRecDepth 100000 in
set_option maxHeartbeats 4000000 in
theorem kept_spec (A B : Option Addr) (m c m' c' : Nat) (xs : List Int) (hm : m' ≤ 140737488351232) (hmc : m' + 20 ≤ c) : FnC Try.prog 42 [.slice A m c, .slice B m' c'] (fun h => rdS (encI .u8) h A (m' + 20) (xs ++ marks) ∧ rdS (encI .u8) h B m' xs) (.bool true) := by
  refine Ctr.intro Try.func42 rfl rfl (by decide +kernel) fun F hpre => ?_
  have r1 : rdS (encI .u8) F.heap A (m' + 20) (xs ++ marks) := hpre.1
  have r2 : rdS (encI .u8) F.heap B m' xs := hpre.2
  have hl2 := r2.1
  have e5 : ((m' : Int) + 20).toNat = m' + 20 := by omega
  repeat' (first | (refine XL_id ?_; first | refine XL_nil ?_ | (refine XG_slice ?_; (refine XL_slice0 tt_ok rfl rfl rfl (.hi (by omega) (by omega)) rfl rfl rfl rfl ?_; rw [e5])) | (refine XL_op tt_ok rfl rfl ?_; try (refine XL_int (wrap_i64 (by omega) (by omega)) ?_))) | (refine X_id ?_; first | refine X_seq ?_ | (refine X_regionN (by repeat' (exact .nil)) ?_) | refine X_block ?_) | (refine Y_id ?_; refine Y_then ?_))
  refine X_loopD [1, 5] (fun (i : Nat) => [(6, .int .i64 i)]) (fun _ => []) (fun i => i ≤ m' + 20) (fun i => m' + 20 - i) 0 rfl (Nat.zero_le _) (by (repeat' (first | exact trivial | refine And.intro rfl ?_)); done) (fun _ h => h) ?_
  intro i hi
  have hi : i ≤ m' + 20 := hi
  by_cases hlt : i < m' + 20
  · have hg := app_get (xs := xs) (ys := marks) (i := i)
    by_cases hlo : i < m'
    · rw [if_pos (by omega)] at hg
      repeat' (first | (refine XL_id ?_; first | refine XL_nil ?_ | (refine XL_op tt_ok rfl rfl ?_; try (first | refine XL_int (wrap_i64 (by omega) (by omega)) ?_ | refine XL_dec_t (by omega) ?_))) | (refine XD_id ?_; first | (refine XD_thaw thaw ?_; refine XD_nil ?_) | refine XD_no rfl rfl rfl rfl rfl rfl ?_ | (refine XD_id ?_; (first | (refine XD_gL rfl ?_; refine XD_sy rfl rfl rfl rfl rfl (XV_el tt_ok rfl (rdS.le (by assumption) hFG) rfl (by omega) (by omega) rfl rfl rfl) rfl ?_) | (refine XD_gI rfl ?_; refine XD_sy rfl rfl rfl rfl rfl (XV_idx tt_ok rfl rfl rfl rfl rfl (rdS.le (by assumption) hFG) (by omega) (by omega)) rfl ?_) | (refine XD_u rfl rfl ?_; refine XD_s rfl rfl rfl (XV_op tt_ok rfl) rfl ?_) | (refine XD_g rfl rfl ?_; refine XD_sy rfl rfl rfl rfl rfl (XV_op tt_ok rfl) rfl ?_)); try (first | refine XD_dec_t (by omega) ?_ | refine XD_dec_f (by omega) ?_))) | (refine X_id ?_; first | (refine X_drawS (id := 5) [0, 1, 2, 3, 4, 5, 6, 7, 8, 9, 10, 11, 12, 13, 14, 15, 16, 17, 18, 19, 20, 21, 22, 23, 24, 25, 26, 27, 28, 29, 30, 31, 32, 33] (fun _ => .s) 8 (by repeat' (exact Split.nil)) mixed (by decide +kernel) ?_; intro G hFG hM thaw; show XD _ _ _ _ _ _ [0, 1, 2, 3, 4, 5, 6, 7, 8, 9, 10, 11, 12, 13, 14, 15, 16, 17, 18, 19, 20, 21, 22, 23, 24, 25, 26, 27, 28, 29, 30, 31, 32, 33] _ _ _) | refine X_seq ?_ | (refine X_regionN (by repeat' (exact .nil)) ?_) | refine X_skip ?_ | refine X_block ?_ | refine X_cond_t rfl ?_ | refine X_cond_f rfl ?_) | (refine Y_id ?_; first | refine Y_then ?_ | refine Y_block_normal ?_))
      all_goals first
        | exact Y_again (i + 1) fun _ _ hf hs => ⟨by show i + 1 ≤ m' + 20; omega, by show m' + 20 - (i + 1) < m' + 20 - i; omega, hf.sub (by (repeat' (first | exact trivial | refine And.intro rfl ?_)); done), hs.imp fun _ _ => trivial⟩
        | exact absurd hg (by assumption)
        | skip
      
    · rw [if_neg (by omega), marks_at (by omega)] at hg
      have e : ((i - xs.length : Nat) : Int) = (i : Int) - m' := by omega
      rw [e] at hg
      repeat' (first | (refine XL_id ?_; first | refine XL_nil ?_ | (refine XL_op tt_ok rfl rfl ?_; try (first | refine XL_int (wrap_i64 (by omega) (by omega)) ?_ | refine XL_dec_t (by omega) ?_))) | (refine XD_id ?_; first | (refine XD_thaw thaw ?_; refine XD_nil ?_) | refine XD_no rfl rfl rfl rfl rfl rfl ?_ | (refine XD_id ?_; (first | (refine XD_gL rfl ?_; refine XD_sy rfl rfl rfl rfl rfl (XV_el tt_ok rfl (rdS.le (by assumption) hFG) rfl (by omega) (by omega) rfl rfl rfl) rfl ?_) | (refine XD_gI rfl ?_; refine XD_sy rfl rfl rfl rfl rfl (XV_idx tt_ok rfl rfl rfl rfl rfl (rdS.le (by assumption) hFG) (by omega) (by omega)) rfl ?_) | (refine XD_u rfl rfl ?_; refine XD_s rfl rfl rfl (XV_op tt_ok rfl) rfl ?_) | (refine XD_g rfl rfl ?_; refine XD_sy rfl rfl rfl rfl rfl (XV_op tt_ok rfl) rfl ?_)); try (first | refine XD_int (wrap_i64 (by omega) (by omega)) ?_ | refine XD_int (wrap_u8 (by omega) (by omega)) ?_ | refine XD_dec_t (by omega) ?_ | refine XD_dec_f (by omega) ?_))) | (refine X_id ?_; first | (refine X_drawS (id := 5) [0, 1, 2, 3, 4, 5, 6, 7, 8, 9, 10, 11, 12, 13, 14, 15, 16, 17, 18, 19, 20, 21, 22, 23, 24, 25, 26, 27, 28, 29, 30, 31, 32, 33] (fun _ => .s) 8 (by repeat' (exact Split.nil)) mixed (by decide +kernel) ?_; intro G hFG hM thaw; show XD _ _ _ _ _ _ [0, 1, 2, 3, 4, 5, 6, 7, 8, 9, 10, 11, 12, 13, 14, 15, 16, 17, 18, 19, 20, 21, 22, 23, 24, 25, 26, 27, 28, 29, 30, 31, 32, 33] _ _ _) | refine X_seq ?_ | (refine X_regionN (by repeat' (exact .nil)) ?_) | refine X_skip ?_ | refine X_block ?_ | refine X_cond_t rfl ?_ | refine X_cond_f rfl ?_) | (refine Y_id ?_; first | refine Y_then ?_ | refine Y_block_normal ?_))
      all_goals first
        | exact Y_again (i + 1) fun _ _ hf hs => ⟨by show i + 1 ≤ m' + 20; omega, by show m' + 20 - (i + 1) < m' + 20 - i; omega, hf.sub (by (repeat' (first | exact trivial | refine And.intro rfl ?_)); done), hs.imp fun _ _ => trivial⟩
        | (exfalso; omega)
        | skip
      
  · repeat' (first | (refine XL_id ?_; first | refine XL_nil ?_ | (refine XL_op tt_ok rfl rfl ?_; try (refine XL_dec_f (by omega) ?_))) | (refine X_id ?_; first | refine X_seq ?_ | (refine X_regionN (by repeat' (exact .nil)) ?_) | refine X_ret ?_ | refine X_exit ?_ | refine X_cond_f rfl ?_) | (refine Y_id ?_; first | refine Y_then ?_ | refine Y_then_exit ?_ | refine Y_block_hit ?_))
    exact Y_fn1 rfl rfl rfl
/-- The page's bytes, none where there is no such frame. -/
def pageX (bs : List Int) (f : Int) : List Int := if frameE bs.length f = 0 then pageF bs f else []
theorem pageX_len {bs : List Int} (hm : Mem bs) (f : Int) : (pageX bs f).length ≤ 256 := by
  unfold pageX
  split
  · rename_i h
    have := frameE_ok h
    rw [pageF_length this.1 this.2]
    exact Nat.le_refl _
  · exact Nat.zero_le _
theorem pageL_spec (p : Nat) (bs : List Int) (f : Int) (hm : Mem bs) (h2 : -9223372036854775808 ≤ f) (h3 : f < 9223372036854775808) :
    Ctr Try.prog 15 [.pointer (some ⟨p, 0, none⟩), .int .i64 f] (fun _ => True) [isMem p bs] (fun v L => ∃ A c, v = .tuple #[.slice A (pageX bs f).length c, .int .i64 (frameE bs.length f)] ∧ L = [own (encI .u8) A (pageX bs f).length c (pageX bs f), isMem p bs]) := by
  refine (pageOf_spec p bs f h2 h3).mono (fun _ h => h) fun v L h => ?_
  by_cases he : frameE bs.length f = 0
  · rw [if_pos he] at h
    obtain ⟨b, rfl, rfl⟩ := h
    have hin := frameE_ok he
    have e1 : pageX bs f = pageF bs f := if_pos he
    rw [e1, pageF_length hin.1 hin.2]
    exact ⟨_, ⟨some ⟨b, 0, none⟩, 256, by rw [he], rfl⟩, fun _ h => h⟩
  · rw [if_neg he] at h
    obtain ⟨rfl, rfl⟩ := h
    have e1 : pageX bs f = [] := if_neg he
    rw [e1]
    exact ⟨_, ⟨none, 0, rfl, rfl⟩, fun _ h => stars_new (own_nil _ _) h⟩
theorem rpageL_spec (p g N : Nat) (bs : List Int) (f : Int) (hmem : Mem bs) (hN : N = bs.length) :
    Ctr Try.prog 35 [.pointer (some ⟨p, 0, none⟩), .int .i64 f] (refH p g N bs) [] (fun v L => ∃ A c, v = .tuple #[.slice A (pageX bs f).length c, .int .i64 (frameE bs.length f)] ∧ L = [own (encI .u8) A (pageX bs f).length c (pageX bs f)]) := by
  subst hN
  refine (rpage_spec p g _ bs f hmem rfl).mono (fun _ h => h) fun v L h => ?_
  by_cases he : frameE bs.length f = 0
  · rw [if_pos he] at h
    obtain ⟨b, rfl, rfl⟩ := h
    have hin := frameE_ok he
    have e1 : pageX bs f = pageF bs f := if_pos he
    rw [e1, pageF_length hin.1 hin.2]
    exact ⟨_, ⟨some ⟨b, 0, none⟩, 256, by rw [he], rfl⟩, fun _ h => h⟩
  · rw [if_neg he] at h
    obtain ⟨rfl, rfl⟩ := h
    have e1 : pageX bs f = [] := if_neg he
    rw [e1]
    exact ⟨_, ⟨none, 0, rfl, rfl⟩, fun _ h => stars_new (own_nil _ _) h⟩
theorem putL_spec (p : Nat) (bs : List Int) (f : Int) (A : Option Addr) (m c : Nat) (ys : List Int) (h2 : -9223372036854775808 ≤ f) (h3 : f < 9223372036854775808) (hm : m ≤ 9223372036854775807) (hy : ∀ y ∈ ys, 0 ≤ y ∧ y < 256) :
    Ctr Try.prog 18 [.pointer (some ⟨p, 0, none⟩), .int .i64 f, .slice A m c] (fun h => rdS (encI .u8) h A m ys) [isMem p bs] (fun v L => v = .int .i64 (putE bs.length f m) ∧ L = [isMem p (if putE bs.length f m = 0 then putF bs f ys else bs)]) := by
  refine (put_spec p bs f A m c ys h2 h3 hm hy).mono (fun _ h => h) fun v L h => ⟨L, ?_, fun _ h => h⟩
  unfold putE
  by_cases he : frameE bs.length f = 0
  · rw [if_pos he] at h ⊢
    by_cases hm2 : m = 256
    · rw [if_pos hm2] at h ⊢; exact h
    · rw [if_neg hm2] at h ⊢; exact h
  · rw [if_neg he] at h ⊢
    rw [if_neg he]
    exact h
end Go.Proofs.Ytookjknlfkmemaa
