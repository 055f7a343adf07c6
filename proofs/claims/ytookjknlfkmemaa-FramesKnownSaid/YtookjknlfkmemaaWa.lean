/- Walks of the program's memory. -/
import Derived.Test.YtookjknlfkmemaaDefs
set_option linter.unusedVariables false
namespace Go.Proofs.Ytookjknlfkmemaa
open Go.RowKit Go.Cof

theorem offMay_spec (off : Int) : FnC Try.prog 43 [.int .i64 off] (fun _ => True) (.bool (decide (0 ≤ off ∧ off < 256))) := by
  refine Ctr.intro Try.func43 rfl rfl (by decide +kernel) fun F hpre => ?_
  repeat' (first | (refine XL_id ?_; first | (refine XL_nil ?_) | (refine XL_guard_yes rfl rfl rfl ?_) | (refine XL_guard_no rfl rfl rfl rfl rfl ?_) | (refine XL_op tt_ok rfl rfl ?_; try ((refine XL_dec (fun _ => ?_) (fun _ => ?_))))) | (refine X_id ?_; first | (refine X_seq ?_) | (refine X_regionN (by repeat' (exact .nil)) ?_) | (refine X_ret ?_)) | (refine Y_id ?_; (refine Y_then ?_)))
  all_goals (refine Y_fn1 rfl rfl ?_)
  all_goals (first | exact bool_t (by omega) | exact bool_f (by omega))

def placeV (frame off : Int) : Value := if 0 ≤ frame ∧ frame < 4096 ∧ 0 ≤ off ∧ off < 256 then .tuple #[.int .u64 (frame * 256 + off), .int .i64 0] else .tuple #[.int .u64 0, .int .i64 2]
theorem place_spec (frame off : Int) : FnC Try.prog 36 [.int .i64 frame, .int .i64 off] (fun _ => True) (placeV frame off) := by
  refine Ctr.intro Try.func36 rfl rfl (by decide +kernel) fun F hpre => ?_
  repeat' (first | (refine XL_id ?_; first | (refine XL_nil ?_) | (refine XL_guard_yes rfl rfl rfl ?_) | (refine XL_guard_no rfl rfl rfl rfl rfl ?_) | (refine XG_call ?_; (refine XL_fn (offMay_spec _) rfl rfl (fun _ _ _ => trivial) ?_; try ((refine XL_dec (fun _ => ?_) (fun _ => ?_))))) | (refine XL_op tt_ok rfl rfl ?_; try (first | (refine XL_int (shl8_u64 (by omega) (by omega)) ?_) | (refine XL_int (wrap_u64 (by omega) (by omega)) ?_) | (refine XL_dec (fun _ => ?_) (fun _ => ?_))))) | (refine X_id ?_; first | (refine X_seq ?_) | (refine X_regionN (by repeat' (exact .nil)) ?_) | (refine X_skip ?_) | (refine X_ret ?_) | (refine X_cond_t rfl ?_) | (refine X_cond_f rfl ?_)) | (refine Y_id ?_; first | (refine Y_then ?_) | (refine Y_then_ret ?_)))
  all_goals (refine Y_fn2 rfl rfl rfl ?_)
  all_goals unfold placeV
  case refine_2.refine_2.refine_1 =>
    rw [if_pos (by omega), or_u64 8 (by omega) (by omega) (by omega) (by omega) (by omega) (by omega)]
  all_goals (rw [if_neg (by omega)])

/-- The blocks of a memory. -/
structure MX where
  g : Nat
  q : Nat
  c : Nat
  n : Nat
  N : Nat
def pagesOf (g n : Nat) : List Sl := (List.range n).map fun i => ⟨g, i * 256, 256, 256⟩
abbrev memB (p : Nat) (x : MX) : HProp := blk p [.slice (some ⟨x.g, 0, none⟩) x.N x.N, .slice (some ⟨x.q, 0, none⟩) x.n x.c] 59
abbrev memP (p : Nat) (x : MX) (bs : List Int) : List HProp := [memB p x, own (encI .u8) (some ⟨x.g, 0, none⟩) x.N x.N bs, own encSl (some ⟨x.q, 0, none⟩) x.n x.c (pagesOf x.g x.n)]
structure MOk (x : MX) (bs : List Int) : Prop where
  mem : Mem bs
  N : x.N = bs.length
  n : x.n = x.N / 256
theorem MOk.le {x : MX} {bs : List Int} (h : MOk x bs) : 256 ≤ x.N ∧ x.N ≤ 1048576 ∧ x.N = x.n * 256 ∧ 1 ≤ x.n ∧ x.n ≤ 4096 := by
  have h1 := h.mem.div; have h2 := h.N; have h3 := h.n; omega
def isMem (p : Nat) (bs : List Int) : HProp := fun h => ∃ x : MX, MOk x bs ∧ stars (memP p x bs) h
theorem isMem_mem {p : Nat} {bs : List Int} {h : Hp} (o : isMem p bs h) : Mem bs := let ⟨_, hx, _⟩ := o; hx.mem

theorem frames_spec (p : Nat) (x : MX) : FnC Try.prog 21 [.pointer (some ⟨p, 0, none⟩)] (memB p x) (.int .i64 x.n) := by
  refine Ctr.intro Try.func21 rfl rfl (by decide +kernel) fun F hpre => ?_
  repeat' (first | (refine XL_id ?_; first | (refine XL_nil ?_) | (refine XG_load ?_; (refine XL_loadF tt_ok rfl (by assumption) rfl rfl rfl rfl ?_)) | (refine XL_op tt_ok rfl rfl ?_)) | (refine X_id ?_; first | (refine X_seq ?_) | (refine X_regionN (by repeat' (exact .nil)) ?_) | (refine X_skip ?_) | (refine X_ret ?_) | (refine X_cond_f rfl ?_)) | (refine Y_id ?_; (refine Y_then ?_)))
  exact Y_fn1 rfl rfl rfl

def thereR (g N : Nat) (pa size : Int) : Value := if runE N pa size = 0 then .tuple #[.slice (some ⟨g, pa.toNat, none⟩) size.toNat (N - pa.toNat), .int .i64 0] else .tuple #[.slice none 0 0, .int .i64 (runE N pa size)]
theorem thereR_bad {g N : Nat} {pa size e : Int} (h : runE N pa size = e) (he : e ≠ 0) : thereR g N pa size = .tuple #[.slice none 0 0, .int .i64 e] := by unfold thereR; rw [h, if_neg he]
theorem runE_a {N : Nat} {pa size : Int} (h : (N : Int) ≤ pa) : runE N pa size = 10 := by unfold runE; rw [if_pos h]
theorem runE_b {N : Nat} {pa size : Int} (h : ¬ (N : Int) ≤ pa) (h2 : size < 1 ∨ 8 < size) : runE N pa size = 2 := by unfold runE; rw [if_neg h, if_pos h2]
theorem runE_c {N : Nat} {pa size : Int} (h : ¬ (N : Int) ≤ pa) (h2 : ¬ (size < 1 ∨ 8 < size)) (h3 : (N : Int) - pa < size) : runE N pa size = 10 := by unfold runE; rw [if_neg h, if_neg h2, if_pos h3]
theorem runE_ok {N : Nat} {pa size : Int} (h : runE N pa size = 0) : pa < N ∧ 1 ≤ size ∧ size ≤ 8 ∧ size ≤ N - pa := by
  unfold runE at h
  split at h
  · cases h
  · split at h
    · cases h
    · split at h
      · cases h
      · omega
theorem there_spec (p : Nat) (x : MX) (pa size : Int) (hn : 1 ≤ x.n) (hN : x.N ≤ 1048576) (h0 : 0 ≤ pa) (h1 : pa < 18446744073709551616) (h2 : -9223372036854775808 ≤ size) (h3 : size < 9223372036854775808) :
    FnC Try.prog 25 [.pointer (some ⟨p, 0, none⟩), .int .u64 pa, .int .i64 size] (memB p x) (thereR x.g x.N pa size) := by
  refine Ctr.intro Try.func25 rfl rfl (by decide +kernel) fun F hpre => ?_
  repeat' (first | (refine XL_id ?_; first | (refine XL_nil ?_) | (refine XL_guard_yes rfl rfl rfl ?_) | (refine XL_guard_no rfl rfl rfl rfl rfl ?_) | (refine XG_load ?_; (refine XL_loadF tt_ok rfl (by assumption) rfl rfl rfl rfl ?_)) | (refine XG_call ?_; first | (refine XL_op tt_ok rfl rfl ?_) | (refine XL_fn (frames_spec p x) rfl rfl (fun g hF _ => blk_le hpre hF) ?_)) | (refine XG_slice ?_; (refine XL_slicel tt_ok rfl rfl rfl rfl (.lohi (by omega) (by omega) (by omega)) (by omega) rfl rfl rfl rfl ?_)) | (refine XL_op tt_ok rfl rfl ?_; try (first | (refine XL_int (wrap_i64 (by omega) (by omega)) ?_) | (refine XL_int (wrap_u64 (by omega) (by omega)) ?_) | (refine XL_dec_f (by omega) ?_) | (refine XL_dec (fun _ => ?_) (fun _ => ?_))))) | (refine X_id ?_; first | (refine X_seq ?_) | (refine X_regionN (by repeat' (exact .nil)) ?_) | (refine X_skip ?_) | (refine X_ret ?_) | (refine X_cond_t rfl ?_) | (refine X_cond_f rfl ?_)) | (refine Y_id ?_; first | (refine Y_then ?_) | (refine Y_then_ret ?_)))
  all_goals (refine Y_fn2 rfl rfl rfl ?_)
  case refine_2.refine_2.refine_2.refine_2 =>
    unfold thereR
    rw [if_pos (by unfold runE; rw [if_neg (by omega), if_neg (by omega), if_neg (by omega)])]
    congr 6
    all_goals omega
  all_goals (first | exact (thereR_bad (runE_a (by omega)) (by decide)).symm | exact (thereR_bad (runE_b (by omega) (by omega)) (by decide)).symm | exact (thereR_bad (runE_c (by omega) (by omega) (by omega)) (by decide)).symm)

theorem frameE_ok {N : Nat} {f : Int} (h : frameE N f = 0) : 0 ≤ f ∧ f < (N : Int) / 256 := by
  unfold frameE at h
  split at h
  · cases h
  · omega
def pageR (g N : Nat) (f : Int) : Value := if frameE N f = 0 then .tuple #[.slice (some ⟨g, f.toNat * 256, none⟩) 256 256, .int .i64 0] else .tuple #[.slice none 0 0, .int .i64 (frameE N f)]
theorem page_spec (p : Nat) (x : MX) (f : Int) (bs : List Int) (hx : MOk x bs) (h2 : -9223372036854775808 ≤ f) (h3 : f < 9223372036854775808) :
    FnC Try.prog 26 [.pointer (some ⟨p, 0, none⟩), .int .i64 f] (fun h => memB p x h ∧ rdS encSl h (some ⟨x.q, 0, none⟩) x.n (pagesOf x.g x.n)) (pageR x.g x.N f) := by
  have hl := hx.le
  refine Ctr.intro Try.func26 rfl rfl (by decide +kernel) fun F hpre0 => ?_
  obtain ⟨hpre, hr⟩ := hpre0
  by_cases hf : 0 ≤ f ∧ f < x.n
  · have hpl : placeV f 0 = .tuple #[.int .u64 (f * 256), .int .i64 0] := by unfold placeV; rw [if_pos (by omega)]; simp
    have hps := place_spec f 0
    rw [hpl] at hps
    have hget : Cof.get (pagesOf x.g x.n) f = ⟨x.g, f.toNat * 256, 256, 256⟩ := by
      have : f.toNat < x.n := by omega
      simp [Cof.get, pagesOf, List.getD_eq_getElem?_getD, this]
    repeat' (first | (refine XL_id ?_; first | (refine XL_nil ?_) | (refine XL_guard_yes rfl rfl rfl ?_) | (refine XG_load ?_; first | (refine XL_loadF tt_ok rfl (by assumption) rfl rfl rfl rfl ?_) | (refine XL_el tt_ok rfl (by assumption) rfl (by omega) (by omega) rfl rfl rfl rfl ?_)) | (refine XG_idx ?_; (refine XL_idx tt_ok rfl rfl rfl rfl rfl (by assumption) (by omega) (by omega) rfl ?_)) | (refine XG_call ?_; first | (refine XL_op tt_ok rfl rfl ?_) | (refine XL_fn (frames_spec p x) rfl rfl (fun g hF _ => blk_le hpre hF) ?_) | (refine XL_fn hps rfl rfl (fun _ _ _ => trivial) ?_)) | (refine XL_op tt_ok rfl rfl ?_; try (first | (refine XL_int (wrap_i64 (by omega) (by omega)) ?_) | (refine XL_dec_f (by omega) ?_)))) | (refine X_id ?_; first | (refine X_seq ?_) | (refine X_regionN (by repeat' (exact .nil)) ?_) | (refine X_skip ?_) | (refine X_ret ?_) | (refine X_cond_f rfl ?_)) | (refine Y_id ?_; (refine Y_then ?_)))
    refine Y_fn2 rfl rfl rfl ?_
    unfold pageR
    rw [if_pos (by unfold frameE; rw [if_neg (by omega)]), hget]
  · have e : frameE x.N f = 2 := by unfold frameE; rw [if_pos (by omega)]
    repeat' (first | (refine XL_id ?_; first | (refine XL_nil ?_) | (refine XL_guard_yes rfl rfl rfl ?_) | (refine XL_guard_no rfl rfl rfl rfl rfl ?_) | (refine XG_load ?_; (refine XL_loadF tt_ok rfl (by assumption) rfl rfl rfl rfl ?_)) | (refine XG_call ?_; first | (refine XL_op tt_ok rfl rfl ?_) | (refine XL_fn (frames_spec p x) rfl rfl (fun g hF _ => blk_le hpre hF) ?_)) | (refine XL_op tt_ok rfl rfl ?_; try (first | (refine XL_dec_t (by omega) ?_) | (refine XL_dec_f (by omega) ?_) | (refine XL_dec (fun _ => ?_) (fun _ => ?_))))) | (refine X_id ?_; first | (refine X_seq ?_) | (refine X_regionN (by repeat' (exact .nil)) ?_) | (refine X_skip ?_) | (refine X_ret ?_) | (refine X_cond_t rfl ?_) | (refine X_cond_f rfl ?_)) | (refine Y_id ?_; first | (refine Y_then ?_) | (refine Y_then_ret ?_)))
    all_goals (refine Y_fn2 rfl rfl rfl ?_)
    all_goals (unfold pageR; rw [e]; rfl)

theorem byte_spec (p : Nat) (bs : List Int) (pa : Int) (h0 : 0 ≤ pa) (h1 : pa < 18446744073709551616) :
    Ctr Try.prog 12 [.pointer (some ⟨p, 0, none⟩), .int .u64 pa] (fun _ => True) [isMem p bs] (fun v L => v = .tuple #[.int .u8 (if runE bs.length pa 1 = 0 then byteAt bs pa.toNat else 0), .int .i64 (runE bs.length pa 1)] ∧ L = [isMem p bs]) := by
  refine Ctr.intro Try.func12 rfl rfl (by decide +kernel) fun F hpre => ?_
  refine X_openp 0 rfl (fun _ h => h) fun x hx => ?_
  have hl := hx.le
  have hs := there_spec p x pa 1 (by omega) (by omega) h0 h1 (by decide) (by decide)
  rw [← hx.N]
  by_cases he : runE x.N pa 1 = 0
  · have hb := runE_ok he
    unfold thereR at hs
    rw [if_pos he] at hs
    repeat' (first | (refine XL_id ?_; first | (refine XL_nil ?_) | (refine XG_load ?_; (refine XL_at tt_ok 1 rfl rfl rfl (by omega) rfl rfl rfl rfl ?_)) | (refine XG_idx ?_; (refine XL_idxl tt_ok rfl rfl rfl rfl rfl (by omega) (by omega) rfl ?_)) | (refine XG_call ?_; (refine XL_fn hs rfl rfl (fun g _ hL => blk_at 0 rfl hL) ?_)) | (refine XL_op tt_ok rfl rfl ?_; try ((refine XL_dec_f (by omega) ?_)))) | (refine X_id ?_; first | (refine X_seq ?_) | (refine X_regionN (by repeat' (first | exact .nil | apply NL.cons)) ?_) | (refine X_skip ?_) | (refine X_ret ?_) | (refine X_cond_f rfl ?_)) | (refine Y_id ?_; (refine Y_then ?_)))
    refine Y_ret2 rfl rfl rfl (stars_fin [0, 0, 0] rfl fun _ h => ⟨x, hx, h⟩) ⟨?_, rfl⟩
    rw [he, if_pos rfl]
    rfl
  · unfold thereR at hs
    rw [if_neg he] at hs
    repeat' (first | (refine XL_id ?_; first | (refine XL_nil ?_) | (refine XG_call ?_; (refine XL_fn hs rfl rfl (fun g _ hL => blk_at 0 rfl hL) ?_)) | (refine XL_op tt_ok rfl rfl ?_; try ((refine XL_dec_t (by omega) ?_)))) | (refine X_id ?_; first | (refine X_seq ?_) | (refine X_regionN (by repeat' (first | exact .nil | apply NL.cons)) ?_) | (refine X_ret ?_) | (refine X_cond_t rfl ?_)) | (refine Y_id ?_; first | (refine Y_then ?_) | (refine Y_then_ret ?_)))
    refine Y_ret2 rfl rfl rfl (stars_fin [0, 0, 0] rfl fun _ h => ⟨x, hx, h⟩) ⟨?_, rfl⟩
    rw [if_neg he]
    rfl
end Go.Proofs.Ytookjknlfkmemaa
