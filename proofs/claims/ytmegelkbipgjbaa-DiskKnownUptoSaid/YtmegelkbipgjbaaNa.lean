/- A Disk that is nil, or that New did not make; contracts over one that may be nil. -/
import Derived.Test.YtmegelkbipgjbaaRa
set_option linter.unusedVariables false
namespace Go.Proofs.Ytmegelkbipgjbaa
open Go.RowKit Go.Cof

theorem pslot_n (k : Int) : FnC Try.prog 22 [.pointer none, iV k] (fun _ => True) (iV 1) := by
  refine Ctr.intro Try.func22 rfl rfl (by decide +kernel) fun F hpre => ?_
  repeat' (first | (refine XL_id ?_; first | refine XL_nil ?_ | refine XL_guard_no rfl rfl rfl rfl rfl ?_ | (refine XL_op tt_ok rfl rfl ?_; try (refine XL_dec_t (by omega) ?_))) | (refine X_id ?_; first | refine X_seq ?_ | (refine X_regionN (by repeat' (exact .nil)) ?_) | refine X_ret ?_ | refine X_cond_t rfl ?_) | (refine Y_id ?_; first | refine Y_then ?_ | refine Y_then_ret ?_))
  all_goals first
    | exact Y_fn1 rfl rfl rfl
    | skip
  
abbrev unD (b : Nat) : HProp := blk b [iV 0, .map none] 51
theorem pslot_e (b : Nat) (k : Int) : FnC Try.prog 22 [ptr b, iV k] (fun h => unD b h) (iV 1) := by
  refine Ctr.intro Try.func22 rfl rfl (by decide +kernel) fun F hpre => ?_
  have hb : unD b F.heap := hpre
  repeat' (first | (refine XL_id ?_; first | refine XL_nil ?_ | refine XL_guard_yes rfl rfl rfl ?_ | (refine XG_load ?_; refine XL_loadF tt_ok rfl (by assumption) rfl rfl rfl rfl ?_) | (refine XL_op tt_ok rfl rfl ?_)) | (refine X_id ?_; first | refine X_seq ?_ | (refine X_regionN (by repeat' (exact .nil)) ?_) | refine X_ret ?_ | refine X_cond_t rfl ?_) | (refine Y_id ?_; first | refine Y_then ?_ | refine Y_then_ret ?_))
  all_goals first
    | exact Y_fn1 rfl rfl rfl
    | skip
  
theorem rslot_n (k : Int) : FnC Try.prog 33 [.pointer none, iV k] (fun _ => True) (iV 1) := by
  refine Ctr.intro Try.func33 rfl rfl (by decide +kernel) fun F hpre => ?_
  repeat' (first | (refine XL_id ?_; first | refine XL_nil ?_ | refine XL_guard_no rfl rfl rfl rfl rfl ?_ | (refine XL_op tt_ok rfl rfl ?_; try (refine XL_dec_t (by omega) ?_))) | (refine X_id ?_; first | refine X_seq ?_ | (refine X_regionN (by repeat' (exact .nil)) ?_) | refine X_ret ?_ | refine X_cond_t rfl ?_) | (refine Y_id ?_; first | refine Y_then ?_ | refine Y_then_ret ?_))
  all_goals first
    | exact Y_fn1 rfl rfl rfl
    | skip
  
theorem pWrite_n (k : Int) (A : Option Addr) (m c : Nat) : FnC Try.prog 9 [.pointer none, iV k, .slice A m c] (fun _ => True) (iV 1) := by
  refine Ctr.intro Try.func9 rfl rfl (by decide +kernel) fun F hpre => ?_
  repeat' (first | (refine XL_id ?_; first | refine XL_nil ?_ | (refine XG_call ?_; refine XL_fn (pslot_n _) rfl rfl (fun _ _ _ => trivial) ?_) | (refine XL_op tt_ok rfl rfl ?_; try (refine XL_dec_t (by omega) ?_))) | (refine X_id ?_; first | refine X_seq ?_ | (refine X_regionN (by repeat' (exact .nil)) ?_) | refine X_ret ?_ | refine X_cond_t rfl ?_) | (refine Y_id ?_; first | refine Y_then ?_ | refine Y_then_ret ?_))
  all_goals first
    | exact Y_fn1 rfl rfl rfl
    | (exfalso; omega)
    | skip
  
theorem pWrite_e (b : Nat) (k : Int) (A : Option Addr) (m c : Nat) : FnC Try.prog 9 [ptr b, iV k, .slice A m c] (fun h => unD b h) (iV 1) := by
  refine Ctr.intro Try.func9 rfl rfl (by decide +kernel) fun F hpre => ?_
  have hb : unD b F.heap := hpre
  repeat' (first | (refine XL_id ?_; first | refine XL_nil ?_ | (refine XG_call ?_; refine XL_fn (pslot_e b _) rfl rfl (fun g hg hL => blk_le hb hg) ?_) | (refine XL_op tt_ok rfl rfl ?_; try (refine XL_dec_t (by omega) ?_))) | (refine X_id ?_; first | refine X_seq ?_ | (refine X_regionN (by repeat' (exact .nil)) ?_) | refine X_ret ?_ | refine X_cond_t rfl ?_) | (refine Y_id ?_; first | refine Y_then ?_ | refine Y_then_ret ?_))
  all_goals first
    | exact Y_fn1 rfl rfl rfl
    | (exfalso; omega)
    | skip
  
theorem pRead_n (k : Int) : FnC Try.prog 11 [.pointer none, iV k] (fun _ => True) (.tuple #[.slice none 0 0, iV 1]) := by
  refine Ctr.intro Try.func11 rfl rfl (by decide +kernel) fun F hpre => ?_
  repeat' (first | (refine XL_id ?_; first | refine XL_nil ?_ | (refine XG_call ?_; refine XL_fn (pslot_n _) rfl rfl (fun _ _ _ => trivial) ?_) | (refine XL_op tt_ok rfl rfl ?_; try (refine XL_dec_t (by omega) ?_))) | (refine X_id ?_; first | refine X_seq ?_ | (refine X_regionN (by repeat' (exact .nil)) ?_) | refine X_ret ?_ | refine X_cond_t rfl ?_) | (refine Y_id ?_; first | refine Y_then ?_ | refine Y_then_ret ?_))
  all_goals first
    | exact Y_fn2 rfl rfl rfl rfl
    | (exfalso; omega)
    | skip
  
theorem pRead_e (b : Nat) (k : Int) : FnC Try.prog 11 [ptr b, iV k] (fun h => unD b h) (.tuple #[.slice none 0 0, iV 1]) := by
  refine Ctr.intro Try.func11 rfl rfl (by decide +kernel) fun F hpre => ?_
  have hb : unD b F.heap := hpre
  repeat' (first | (refine XL_id ?_; first | refine XL_nil ?_ | (refine XG_call ?_; refine XL_fn (pslot_e b _) rfl rfl (fun g hg hL => blk_le hb hg) ?_) | (refine XL_op tt_ok rfl rfl ?_; try (refine XL_dec_t (by omega) ?_))) | (refine X_id ?_; first | refine X_seq ?_ | (refine X_regionN (by repeat' (exact .nil)) ?_) | refine X_ret ?_ | refine X_cond_t rfl ?_) | (refine Y_id ?_; first | refine Y_then ?_ | refine Y_then_ret ?_))
  all_goals first
    | exact Y_fn2 rfl rfl rfl rfl
    | (exfalso; omega)
    | skip
  
theorem pErase_n (k : Int) : FnC Try.prog 12 [.pointer none, iV k] (fun _ => True) (iV 1) := by
  refine Ctr.intro Try.func12 rfl rfl (by decide +kernel) fun F hpre => ?_
  repeat' (first | (refine XL_id ?_; first | refine XL_nil ?_ | (refine XG_call ?_; refine XL_fn (pslot_n _) rfl rfl (fun _ _ _ => trivial) ?_) | (refine XL_op tt_ok rfl rfl ?_; try (refine XL_dec_t (by omega) ?_))) | (refine X_id ?_; first | refine X_seq ?_ | (refine X_regionN (by repeat' (exact .nil)) ?_) | refine X_ret ?_ | refine X_cond_t rfl ?_) | (refine Y_id ?_; first | refine Y_then ?_ | refine Y_then_ret ?_))
  all_goals first
    | exact Y_fn1 rfl rfl rfl
    | (exfalso; omega)
    | skip
  
theorem pErase_e (b : Nat) (k : Int) : FnC Try.prog 12 [ptr b, iV k] (fun h => unD b h) (iV 1) := by
  refine Ctr.intro Try.func12 rfl rfl (by decide +kernel) fun F hpre => ?_
  have hb : unD b F.heap := hpre
  repeat' (first | (refine XL_id ?_; first | refine XL_nil ?_ | (refine XG_call ?_; refine XL_fn (pslot_e b _) rfl rfl (fun g hg hL => blk_le hb hg) ?_) | (refine XL_op tt_ok rfl rfl ?_; try (refine XL_dec_t (by omega) ?_))) | (refine X_id ?_; first | refine X_seq ?_ | (refine X_regionN (by repeat' (exact .nil)) ?_) | refine X_ret ?_ | refine X_cond_t rfl ?_) | (refine Y_id ?_; first | refine Y_then ?_ | refine Y_then_ret ?_))
  all_goals first
    | exact Y_fn1 rfl rfl rfl
    | (exfalso; omega)
    | skip
  
theorem pSlots_n : FnC Try.prog 15 [.pointer none] (fun _ => True) (iV 0) := by
  refine Ctr.intro Try.func15 rfl rfl (by decide +kernel) fun F hpre => ?_
  repeat' (first | (refine XL_id ?_; first | refine XL_nil ?_ | (refine XL_op tt_ok rfl rfl ?_; try (refine XL_dec_t (by omega) ?_))) | (refine X_id ?_; first | refine X_seq ?_ | (refine X_regionN (by repeat' (exact .nil)) ?_) | refine X_ret ?_ | refine X_cond_t rfl ?_) | (refine Y_id ?_; first | refine Y_then ?_ | refine Y_then_ret ?_))
  all_goals first
    | exact Y_fn1 rfl rfl rfl
    | (exfalso; omega)
    | skip
  
theorem pSlots_e (b : Nat) : FnC Try.prog 15 [ptr b] (fun h => unD b h) (iV 0) := by
  refine Ctr.intro Try.func15 rfl rfl (by decide +kernel) fun F hpre => ?_
  have hb : unD b F.heap := hpre
  repeat' (first | (refine XL_id ?_; first | refine XL_nil ?_ | (refine XG_load ?_; refine XL_loadF tt_ok rfl (by assumption) rfl rfl rfl rfl ?_) | (refine XL_op tt_ok rfl rfl ?_)) | (refine X_id ?_; first | refine X_seq ?_ | (refine X_regionN (by repeat' (exact .nil)) ?_) | refine X_skip ?_ | refine X_ret ?_ | refine X_cond_f rfl ?_) | (refine Y_id ?_; refine Y_then ?_))
  all_goals first
    | exact Y_fn1 rfl rfl rfl
    | (exfalso; omega)
    | skip
  
theorem pUsed_n : FnC Try.prog 18 [.pointer none] (fun _ => True) (.slice none 0 0) := by
  refine Ctr.intro Try.func18 rfl rfl (by decide +kernel) fun F hpre => ?_
  repeat' (first | (refine XL_id ?_; first | refine XL_nil ?_ | (refine XL_op tt_ok rfl rfl ?_; try (refine XL_dec_t (by omega) ?_))) | (refine X_id ?_; first | refine X_seq ?_ | (refine X_regionN (by repeat' (exact .nil)) ?_) | refine X_ret ?_ | refine X_cond_t rfl ?_) | (refine Y_id ?_; first | refine Y_then ?_ | refine Y_then_ret ?_))
  all_goals first
    | exact Y_fn1 rfl rfl rfl
    | (exfalso; omega)
    | skip
  
theorem pUsed_e (b : Nat) : FnC Try.prog 18 [ptr b] (fun h => unD b h) (.slice none 0 0) := by
  refine Ctr.intro Try.func18 rfl rfl (by decide +kernel) fun F hpre => ?_
  have hb : unD b F.heap := hpre
  repeat' (first | (refine XL_id ?_; first | refine XL_nil ?_ | (refine XG_load ?_; refine XL_loadF tt_ok rfl (by assumption) rfl rfl rfl rfl ?_) | (refine XG_call ?_; first | (refine XL_callK [] (keys_spec none) rfl rfl (fun _ => rfl) (fun _ _ _ => trivial) (fun u L hv => ?_); obtain ⟨B, rfl, rfl⟩ := hv) | refine XL_callE [] (sorted_nil _) rfl rfl rfl (fun g hg hL => blk_at 0 rfl hL) ?_) | (refine XL_op tt_ok rfl rfl ?_)) | (refine X_id ?_; first | refine X_seq ?_ | (refine X_regionN (by repeat' (exact .nil)) ?_) | refine X_skip ?_ | refine X_ret ?_ | refine X_cond_f rfl ?_) | (refine Y_id ?_; refine Y_then ?_))
  all_goals first
    | exact Y_fn1 rfl rfl rfl
    | (exfalso; omega)
    | skip
  
theorem rWrite_n (k : Int) (A : Option Addr) (m c : Nat) : FnC Try.prog 29 [.pointer none, iV k, .slice A m c] (fun _ => True) (iV 1) := by
  refine Ctr.intro Try.func29 rfl rfl (by decide +kernel) fun F hpre => ?_
  repeat' (first | (refine XL_id ?_; first | refine XL_nil ?_ | (refine XG_call ?_; refine XL_fn (rslot_n _) rfl rfl (fun _ _ _ => trivial) ?_) | (refine XL_op tt_ok rfl rfl ?_; try (refine XL_dec_t (by omega) ?_))) | (refine X_id ?_; first | refine X_seq ?_ | (refine X_regionN (by repeat' (exact .nil)) ?_) | refine X_ret ?_ | refine X_cond_t rfl ?_) | (refine Y_id ?_; first | refine Y_then ?_ | refine Y_then_ret ?_))
  all_goals first
    | exact Y_fn1 rfl rfl rfl
    | (exfalso; omega)
    | skip
  
theorem rRead_n (k : Int) : FnC Try.prog 28 [.pointer none, iV k] (fun _ => True) (.tuple #[.slice none 0 0, iV 1]) := by
  refine Ctr.intro Try.func28 rfl rfl (by decide +kernel) fun F hpre => ?_
  repeat' (first | (refine XL_id ?_; first | refine XL_nil ?_ | (refine XG_call ?_; refine XL_fn (rslot_n _) rfl rfl (fun _ _ _ => trivial) ?_) | (refine XL_op tt_ok rfl rfl ?_; try (refine XL_dec_t (by omega) ?_))) | (refine X_id ?_; first | refine X_seq ?_ | (refine X_regionN (by repeat' (exact .nil)) ?_) | refine X_ret ?_ | refine X_cond_t rfl ?_) | (refine Y_id ?_; first | refine Y_then ?_ | refine Y_then_ret ?_))
  all_goals first
    | exact Y_fn2 rfl rfl rfl rfl
    | (exfalso; omega)
    | skip
  
theorem rErase_n (k : Int) : FnC Try.prog 25 [.pointer none, iV k] (fun _ => True) (iV 1) := by
  refine Ctr.intro Try.func25 rfl rfl (by decide +kernel) fun F hpre => ?_
  repeat' (first | (refine XL_id ?_; first | refine XL_nil ?_ | (refine XG_call ?_; refine XL_fn (rRead_n _) rfl rfl (fun _ _ _ => trivial) ?_) | (refine XL_op tt_ok rfl rfl ?_; try (refine XL_dec_f (by omega) ?_))) | (refine X_id ?_; first | refine X_seq ?_ | (refine X_regionN (by repeat' (exact .nil)) ?_) | refine X_skip ?_ | refine X_ret ?_ | refine X_cond_f rfl ?_) | (refine Y_id ?_; refine Y_then ?_))
  all_goals first
    | exact Y_fn1 rfl rfl rfl
    | (exfalso; omega)
    | skip
  
theorem rSlots_n : FnC Try.prog 16 [.pointer none] (fun _ => True) (iV 0) := by
  refine Ctr.intro Try.func16 rfl rfl (by decide +kernel) fun F hpre => ?_
  repeat' (first | (refine XL_id ?_; first | refine XL_nil ?_ | (refine XL_op tt_ok rfl rfl ?_; try (refine XL_dec_t (by omega) ?_))) | (refine X_id ?_; first | refine X_seq ?_ | (refine X_regionN (by repeat' (exact .nil)) ?_) | refine X_ret ?_ | refine X_cond_t rfl ?_) | (refine Y_id ?_; first | refine Y_then ?_ | refine Y_then_ret ?_))
  all_goals first
    | exact Y_fn1 rfl rfl rfl
    | (exfalso; omega)
    | skip
  
theorem rUsed_n : FnC Try.prog 20 [.pointer none] (fun _ => True) (.slice none 0 0) := by
  refine Ctr.intro Try.func20 rfl rfl (by decide +kernel) fun F hpre => ?_
  repeat' (first | (refine XL_id ?_; first | refine XL_nil ?_ | (refine XL_op tt_ok rfl rfl ?_)) | (refine X_id ?_; first | refine X_block (id := 0) (hold ?_) | refine X_seq ?_ | (refine X_regionN (by repeat' (exact .nil)) ?_)) | (refine Y_id ?_; refine Y_then ?_))
  intro _
  refine X_loopD [0] (fun (_ : Unit) => [(4, .int .i64 0), (3, .slice none 0 0)]) (fun _ => []) (fun _ => True) (fun _ => 0) () rfl trivial (by (repeat' (first | exact trivial | refine And.intro rfl ?_)); done) (fun h hs => hs) ?_
  intro _ _
  repeat' (first | (refine XL_id ?_; first | refine XL_nil ?_ | (refine XG_call ?_; refine XL_fn rSlots_n rfl rfl (fun _ _ _ => trivial) ?_) | (refine XL_op tt_ok rfl rfl ?_; try (refine XL_dec_f (by omega) ?_))) | (refine X_id ?_; first | refine X_seq ?_ | (refine X_regionN (by repeat' (exact .nil)) ?_) | refine X_ret ?_ | refine X_exit ?_ | refine X_cond_f rfl ?_) | (refine Y_id ?_; first | refine Y_then ?_ | refine Y_then_exit ?_ | refine Y_block_hit ?_))
  all_goals first
    | exact Y_fn1 rfl rfl rfl
    | (exfalso; omega)
    | skip
  
/-! a disk that may be nil -/
abbrev ptrO (p : Option Nat) : Value := .pointer (p.map fun p => ⟨p, 0, none⟩)
def isDkO (p : Option Nat) (n : Nat) (s : List (List Int)) : HProp := match p with | some p => isDk p n s | none => fun _ => n = 0 ∧ s = []
def isRfO (p : Option Nat) (n : Nat) (s : List (List Int)) : HProp := match p with | some p => isRf p n s | none => fun _ => n = 0 ∧ s = []
def er (p : Option Nat) (e : Int) : Int := if p.isSome then e else 1
def rdX (p : Option Nat) (n k : Int) (s : List (List Int)) : List Int := if p.isSome ∧ rdE n k s = 0 then Cof.get s k else []
theorem nilC {f : FuncId} {args : List Value} {pre : Hp → Prop} {r : Value} {p : Prop} (h : FnC Try.prog f args pre r) : Ctr Try.prog f args pre [fun _ => p] (fun v L => v = r ∧ p ∧ L = [fun _ => p]) := by
  refine ⟨h.1, fun F w hp hs => ?_⟩
  obtain ⟨_, _, _, hpp⟩ := hs.at (k := 0) rfl
  refine (h.2 F w hp (hs.imp fun _ hh => trivial)).mono ?_
  rintro e w' ⟨v, L, rfl, ⟨rfl, rfl⟩, hs'⟩
  exact ⟨_, _, rfl, ⟨rfl, hpp, rfl⟩, hs'.imp fun h hh => stars_new hpp hh⟩
theorem wrS_nil (k : Int) (xs : List Int) : wrS (0 : Nat) k xs [] = [] := by
  unfold wrS; split <;> rfl
theorem erS_nil (k : Int) : erS (0 : Nat) k [] = [] := by
  unfold erS; split <;> rfl
theorem pwriteO (p : Option Nat) (n : Nat) (s : List (List Int)) (k : Int) (A : Option Addr) (m c : Nat) (xs : List Int) (hA : m = 256 → ∃ b, A = some ⟨b, 0, none⟩) : Ctr Try.prog 9 [ptrO p, iV k, .slice A m c] (fun h => rdS encU h A m xs) [isDkO p n s] (fun v L => v = iV (er p (wrE n k xs)) ∧ L = [isDkO p n (wrS n k xs s)]) := by
  cases p with
  | some p => exact write_spec p n s k A m c xs hA
  | none =>
    refine (nilC (p := n = 0 ∧ s = []) (pWrite_n k A m c)).mono (fun _ _ => trivial) ?_
    rintro v L ⟨rfl, ⟨rfl, rfl⟩, rfl⟩
    exact ⟨_, ⟨rfl, by rw [wrS_nil]; rfl⟩, fun h hh => hh⟩
theorem preadO (p : Option Nat) (n : Nat) (s : List (List Int)) (k : Int) : Ctr Try.prog 11 [ptrO p, iV k] (fun _ => True) [isDkO p n s] (fun v L => ∃ A c, v = .tuple #[.slice A (rdX p n k s).length c, iV (er p (rdE n k s))] ∧ L = [own encU A (rdX p n k s).length c (rdX p n k s), isDkO p n s]) := by
  cases p with
  | some p =>
    by_cases hr : rdE n k s = 0
    · have hx : rdX (some p) n k s = Cof.get s k := if_pos ⟨rfl, hr⟩
      rw [hx, show er (some p) (rdE n k s) = 0 from hr]
      refine ⟨(read_ok p n s k hr).1, fun F w hp hs => ?_⟩
      have hlen : (Cof.get s k).length = 256 := by
        obtain ⟨h0, h1, hne⟩ := rdE_in hr
        obtain ⟨_, _, _, y, hok⟩ := hs.at (k := 0) rfl
        exact hok.1.page h0 h1 hne
      rw [hlen]
      refine ((read_ok p n s k hr).2 F w hp hs).mono ?_
      rintro e w' ⟨v, L, rfl, hv, hs'⟩
      obtain ⟨b, rfl, rfl⟩ := hv
      exact ⟨_, _, rfl, ⟨_, _, rfl, rfl⟩, hs'⟩
    · have hx : rdX (some p) n k s = [] := if_neg (fun h => hr h.2)
      rw [hx]
      refine (read_no p n s k hr).mono (fun _ h => h) ?_
      rintro v L ⟨rfl, rfl⟩
      exact ⟨_, ⟨none, 0, rfl, rfl⟩, fun h hh => stars_new (own_nil encU _) hh⟩
  | none =>
    refine (nilC (p := n = 0 ∧ s = []) (pRead_n k)).mono (fun _ _ => trivial) ?_
    rintro v L ⟨rfl, ⟨rfl, rfl⟩, rfl⟩
    exact ⟨_, ⟨none, 0, rfl, rfl⟩, fun h hh => stars_new (own_nil encU _) hh⟩
theorem peraseO (p : Option Nat) (n : Nat) (s : List (List Int)) (k : Int) : Ctr Try.prog 12 [ptrO p, iV k] (fun _ => True) [isDkO p n s] (fun v L => v = iV (er p (rdE n k s)) ∧ L = [isDkO p n (erS n k s)]) := by
  cases p with
  | some p => exact erase_spec p n s k
  | none =>
    refine (nilC (p := n = 0 ∧ s = []) (pErase_n k)).mono (fun _ _ => trivial) ?_
    rintro v L ⟨rfl, ⟨rfl, rfl⟩, rfl⟩
    exact ⟨_, ⟨rfl, by rw [erS_nil]; rfl⟩, fun h hh => hh⟩
theorem pusedO (p : Option Nat) (n : Nat) (s : List (List Int)) : Ctr Try.prog 18 [ptrO p] (fun _ => True) [isDkO p n s] (fun v L => ∃ A c, v = .slice A (usedF s).length c ∧ L = [own encN A (usedF s).length c (usedF s), isDkO p n s]) := by
  cases p with
  | some p =>
    refine (used_spec p n s).mono (fun _ h => h) ?_
    rintro v L ⟨A, c, rfl, _, rfl⟩
    exact ⟨_, ⟨_, _, rfl, rfl⟩, fun h hh => hh⟩
  | none =>
    refine (nilC (p := n = 0 ∧ s = []) pUsed_n).mono (fun _ _ => trivial) ?_
    rintro v L ⟨rfl, ⟨rfl, rfl⟩, rfl⟩
    exact ⟨_, ⟨none, 0, rfl, rfl⟩, fun h hh => stars_new (own_nil encN _) hh⟩
theorem pslotsO (p : Option Nat) (n : Nat) (s : List (List Int)) : Ctr Try.prog 15 [ptrO p] (fun _ => True) [isDkO p n s] (fun v L => v = iV n ∧ L = [isDkO p n s]) := by
  cases p with
  | some p =>
    refine ⟨(slotsX_spec p n).1, fun F w hp hs => ?_⟩
    obtain ⟨g, hg, hd, y, hok, hst⟩ := hs.at (k := 0) rfl
    obtain ⟨g1, hg1, hb⟩ := at_mem 0 rfl hst
    have := (slotsX_spec p n).call (R := [isDkO (some p) n s]) (F := F) (w := w) hs (fun h hle hR => ?_)
    · refine this.mono ?_
      rintro e w' ⟨v, L, rfl, ⟨rfl, rfl⟩, hs'⟩
      exact ⟨_, _, rfl, ⟨rfl, rfl⟩, hs'⟩
    · obtain ⟨g2, hg2, y2, hok2, hst2⟩ := at_mem 0 rfl hR
      exact ⟨y2, blk_le (blk_at 0 rfl hst2) hg2⟩
  | none =>
    refine (nilC (p := n = 0 ∧ s = []) pSlots_n).mono (fun _ _ => trivial) ?_
    rintro v L ⟨rfl, ⟨rfl, rfl⟩, rfl⟩
    exact ⟨_, ⟨rfl, rfl⟩, fun h hh => hh⟩
theorem rwriteO (p : Option Nat) (n : Nat) (s : List (List Int)) (k : Int) (A : Option Addr) (m c : Nat) (xs : List Int) (hA : m ≤ 140737488351232) : Ctr Try.prog 29 [ptrO p, iV k, .slice A m c] (fun h => rdS encU h A m xs) [isRfO p n s] (fun v L => v = iV (er p (wrE n k xs)) ∧ L = [isRfO p n (wrS n k xs s)]) := by
  cases p with
  | some p => exact rwrite_spec p n s k A m c xs hA
  | none =>
    refine (nilC (p := n = 0 ∧ s = []) (rWrite_n k A m c)).mono (fun _ _ => trivial) ?_
    rintro v L ⟨rfl, ⟨rfl, rfl⟩, rfl⟩
    exact ⟨_, ⟨rfl, by rw [wrS_nil]; rfl⟩, fun h hh => hh⟩
theorem rreadO (p : Option Nat) (n : Nat) (s : List (List Int)) (k : Int) : Ctr Try.prog 28 [ptrO p, iV k] (fun _ => True) [isRfO p n s] (fun v L => ∃ A c, v = .tuple #[.slice A (rdX p n k s).length c, iV (er p (rdE n k s))] ∧ L = [own encU A (rdX p n k s).length c (rdX p n k s), isRfO p n s]) := by
  cases p with
  | some p =>
    by_cases hr : rdE n k s = 0
    · have hx : rdX (some p) n k s = Cof.get s k := if_pos ⟨rfl, hr⟩
      rw [hx, show er (some p) (rdE n k s) = 0 from hr]
      refine ⟨(rread_ok p n s k hr).1, fun F w hp hs => ?_⟩
      have hlen : (Cof.get s k).length = 256 := by
        obtain ⟨h0, h1, hne⟩ := rdE_in hr
        obtain ⟨_, _, _, y, hok⟩ := hs.at (k := 0) rfl
        exact hok.1.ok.page h0 h1 hne
      rw [hlen]
      refine ((rread_ok p n s k hr).2 F w hp hs).mono ?_
      rintro e w' ⟨v, L, rfl, hv, hs'⟩
      obtain ⟨A, c, rfl, rfl⟩ := hv
      exact ⟨_, _, rfl, ⟨_, _, rfl, rfl⟩, hs'⟩
    · have hx : rdX (some p) n k s = [] := if_neg (fun h => hr h.2)
      rw [hx]
      refine (rread_no p n s k hr).mono (fun _ h => h) ?_
      rintro v L ⟨rfl, rfl⟩
      exact ⟨_, ⟨none, 0, rfl, rfl⟩, fun h hh => stars_new (own_nil encU _) hh⟩
  | none =>
    refine (nilC (p := n = 0 ∧ s = []) (rRead_n k)).mono (fun _ _ => trivial) ?_
    rintro v L ⟨rfl, ⟨rfl, rfl⟩, rfl⟩
    exact ⟨_, ⟨none, 0, rfl, rfl⟩, fun h hh => stars_new (own_nil encU _) hh⟩
theorem reraseO (p : Option Nat) (n : Nat) (s : List (List Int)) (k : Int) : Ctr Try.prog 25 [ptrO p, iV k] (fun _ => True) [isRfO p n s] (fun v L => v = iV (er p (rdE n k s)) ∧ L = [isRfO p n (erS n k s)]) := by
  cases p with
  | some p => exact rerase_spec p n s k
  | none =>
    refine (nilC (p := n = 0 ∧ s = []) (rErase_n k)).mono (fun _ _ => trivial) ?_
    rintro v L ⟨rfl, ⟨rfl, rfl⟩, rfl⟩
    exact ⟨_, ⟨rfl, by rw [erS_nil]; rfl⟩, fun h hh => hh⟩
theorem rusedO (p : Option Nat) (n : Nat) (s : List (List Int)) : Ctr Try.prog 20 [ptrO p] (fun _ => True) [isRfO p n s] (fun v L => ∃ A c, v = .slice A (usedF s).length c ∧ L = [own encN A (usedF s).length c (usedF s), isRfO p n s]) := by
  cases p with
  | some p =>
    refine (rused_spec p n s).mono (fun _ h => h) ?_
    rintro v L ⟨A, c, rfl, rfl⟩
    exact ⟨_, ⟨_, _, rfl, rfl⟩, fun h hh => hh⟩
  | none =>
    refine (nilC (p := n = 0 ∧ s = []) rUsed_n).mono (fun _ _ => trivial) ?_
    rintro v L ⟨rfl, ⟨rfl, rfl⟩, rfl⟩
    exact ⟨_, ⟨none, 0, rfl, rfl⟩, fun h hh => stars_new (own_nil encN _) hh⟩
theorem rslotsO (p : Option Nat) (n : Nat) (s : List (List Int)) : Ctr Try.prog 16 [ptrO p] (fun _ => True) [isRfO p n s] (fun v L => v = iV n ∧ L = [isRfO p n s]) := by
  cases p with
  | some p =>
    refine ⟨(rslotsX_spec p n).1, fun F w hp hs => ?_⟩
    obtain ⟨g, hg, hd, y, hok, hst⟩ := hs.at (k := 0) rfl
    obtain ⟨g1, hg1, hb⟩ := at_mem 0 rfl hst
    have := (rslotsX_spec p n).call (R := [isRfO (some p) n s]) (F := F) (w := w) hs (fun h hle hR => ?_)
    · refine this.mono ?_
      rintro e w' ⟨v, L, rfl, ⟨rfl, rfl⟩, hs'⟩
      exact ⟨_, _, rfl, ⟨rfl, rfl⟩, hs'⟩
    · obtain ⟨g2, hg2, y2, hok2, hst2⟩ := at_mem 0 rfl hR
      exact ⟨y2, blk_le (blk_at 0 rfl hst2) hg2⟩
  | none =>
    refine (nilC (p := n = 0 ∧ s = []) rSlots_n).mono (fun _ _ => trivial) ?_
    rintro v L ⟨rfl, ⟨rfl, rfl⟩, rfl⟩
    exact ⟨_, ⟨rfl, rfl⟩, fun h hh => hh⟩
end Go.Proofs.Ytmegelkbipgjbaa
