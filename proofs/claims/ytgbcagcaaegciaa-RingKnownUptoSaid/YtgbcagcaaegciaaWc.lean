/- The function values that the laws hand to Next. -/
import Derived.Test.YtgbcagcaaegciaaWb
set_option linter.unusedVariables false
namespace Go.Proofs.Ytgbcagcaaegciaa
open Go.RowKit Go.Cof

theorem FnC.fr {P : Program} {f : FuncId} {args : List Value} {r : Value} (h : FnC P f args (fun _ => True) r) (U : HProp) : Ctr P f args (fun _ => True) [U] (fun v L => v = r ∧ L = [U]) :=
  ⟨h.1, fun F w hp hs => (Ctr.call (A := []) (R := [U]) h hs (fun _ _ _ => trivial)).mono fun e w' ⟨v, L', he, ⟨hv, hL⟩, hs'⟩ => ⟨v, [U], he, ⟨hv, rfl⟩, by rw [hL] at hs'; exact hs'⟩⟩
theorem Ctr.noemp {P : Program} {f : FuncId} {args : List Value} {pre : Hp → Prop} {A B : HProp} {r : Value} (h : Ctr P f args pre [A, emp] (fun v L => v = r ∧ L = [B, emp])) : Ctr P f args pre [A] (fun v L => v = r ∧ L = [B]) :=
  ⟨h.1, fun F w hp hs => (h.2 F w hp (hs.imp fun g hg => stars_swap (stars_new (A := emp) trivial hg))).mono fun e w' ⟨v, L', he, ⟨hv, hL⟩, hs'⟩ => ⟨v, [B], he, ⟨hv, rfl⟩, by rw [hL] at hs'; exact hs'.imp fun g hg => stars_only [0] rfl g hg⟩⟩
theorem never_fn (y : Int) : FnC Try.prog 23 [iV y] (fun _ => True) (.bool false) := by
  refine Ctr.intro Try.func23 rfl rfl (by decide +kernel) fun F hpre => ?_
  repeat' (first | (refine XL_id ?_; first | refine XL_nil ?_ | (refine XL_op tt_ok rfl rfl ?_)) | (refine X_id ?_; first | refine X_seq ?_ | (refine X_regionN (by repeat' (exact .nil)) ?_) | refine X_ret ?_) | (refine Y_id ?_; refine Y_then ?_))
  exact Y_fn1 rfl rfl rfl
theorem ever_fn (y : Int) : FnC Try.prog 24 [iV y] (fun _ => True) (.bool true) := by
  refine Ctr.intro Try.func24 rfl rfl (by decide +kernel) fun F hpre => ?_
  repeat' (first | (refine XL_id ?_; first | refine XL_nil ?_ | (refine XL_op tt_ok rfl rfl ?_; try (refine XL_dec_t (by omega) ?_))) | (refine X_id ?_; first | refine X_seq ?_ | (refine X_regionN (by repeat' (exact .nil)) ?_) | refine X_ret ?_) | (refine Y_id ?_; refine Y_then ?_))
  exact Y_fn1 rfl rfl rfl
def constA (b : Bool) (_ : Unit) (_ : Int) : Bool := b
def constN (u : Unit) (_ : Int) : Unit := u
theorem never_used (ys : List Int) : Used 23 #[] #[] (fun _ => True) (fun _ : Unit => emp) (constA false) constN (fun _ _ => True) ys :=
  ⟨fun _ _ _ _ => trivial, fun _ _ _ => trivial, fun s k y _ _ _ => FnC.fr (never_fn y) emp, fun _ _ _ _ _ => trivial⟩
theorem ever_used (ys : List Int) : Used 24 #[] #[] (fun _ => True) (fun _ : Unit => emp) (constA true) constN (fun _ _ => True) ys :=
  ⟨fun _ _ _ _ => trivial, fun _ _ _ => trivial, fun s k y _ _ _ => FnC.fr (ever_fn y) emp, fun _ _ _ _ _ => trivial⟩
def nextC (b : Bool) (pin : Int) (ys : List Int) : (Int × Nat × Int) × List Int × Unit := nextF (constA b) constN pin ys ()
theorem nextN_spec (p : Nat) (ys : List Int) (pin : Int) : Ctr Try.prog 18 [ptr p, iV pin, .func (.func 23) #[] #[]] (fun _ => True) [isRing p ys] (fun v L => v = nextV (nextC false pin ys).1 ∧ L = [isRing p (nextC false pin ys).2.1]) :=
  Ctr.noemp (next_spec p ys pin _ #[] #[] _ _ _ _ _ (never_used ys) () trivial)
theorem nextE_spec (p : Nat) (ys : List Int) (pin : Int) : Ctr Try.prog 18 [ptr p, iV pin, .func (.func 24) #[] #[]] (fun _ => True) [isRing p ys] (fun v L => v = nextV (nextC true pin ys).1 ∧ L = [isRing p (nextC true pin ys).2.1]) :=
  Ctr.noemp (next_spec p ys pin _ #[] #[] _ _ _ _ _ (ever_used ys) () trivial)
/-! asked -/
/-- What is done to a ring. -/
structure Do where
  k : Int
  i : Int
  B : Option Addr
  m : Nat
  c : Nat
  r : Bool
  deriving Inhabited
abbrev doC (x : Do) : List Value := [iV x.k, iV x.i, .slice x.B x.m x.c, .bool x.r]
abbrev askB (q : Nat) (x : Do) (A : Option Addr) (m c : Nat) : HProp := blk q [iV x.k, iV x.i, .slice x.B x.m x.c, .bool x.r, .slice A m c] 50
def isAsk (q : Nat) (x : Do) (s : List Int) : HProp := fun g => ∃ y : Option Addr × Nat, True ∧ stars [askB q x y.1 s.length y.2, own encN y.1 s.length y.2 s] g
def ansA (bs : List Bool) (rest : Bool) (s : List Int) (_ : Int) : Bool := if s.length < bs.length then Cof.get bs (s.length : Int) else rest
def nxA (s : List Int) (y : Int) : List Int := s ++ [y]
set_option maxHeartbeats 4000000 in
theorem used_spec (q : Nat) (x : Do) (bs : List Bool) (s : List Int) (y : Int) (hs : s.length ≤ 100000) : Ctr Try.prog 21 [ptr q, iV y] (fun h => rdS encB h x.B x.m bs) [isAsk q x s] (fun v L => v = .bool (ansA bs x.r s y) ∧ L = [isAsk q x (nxA s y)]) := by
  refine Ctr.intro Try.func21 rfl rfl (by decide +kernel) fun F hpre => ?_
  have r1 : rdS encB F.heap x.B x.m bs := hpre
  have hl := r1.1
  unfold ansA nxA
  refine X_openp 0 rfl (fun _ h => h) fun z hok => ?_
  obtain ⟨A, c⟩ := z
  dsimp only
  by_cases hlt : s.length < bs.length
  · rw [if_pos hlt]
    repeat' (first | (refine XL_id ?_; first | refine XL_nil ?_ | (refine XG_load ?_; first | refine XL_load tt_ok 0 rfl rfl rfl rfl rfl rfl ?_ | refine XL_load tt_ok 1 rfl rfl rfl rfl rfl rfl ?_ | refine XL_el tt_ok rfl (by assumption) rfl (by omega) (by omega) rfl rfl rfl rfl ?_) | (refine XG_idx ?_; refine XL_idx tt_ok rfl rfl rfl rfl rfl (by assumption) (by omega) (by omega) rfl ?_) | (refine XG_call ?_; first | (refine XL_op tt_ok rfl rfl ?_) | (refine XL_app1 tt_ok 2 0 y rfl rfl rfl rfl rfl rfl rfl rfl rfl rfl rfl (by show (_ : Nat) * 8 ≤ _; omega) (by omega) (fun _ _ => rfl) (fun A2 c2 => ?_))) | (refine XG_lit ?_; (refine XL_lit tt_ok rfl rfl rfl rfl rfl rfl rfl rfl rfl (fun _ => rfl) (fun b => ?_); refine XL_nB (by repeat' (first | exact .nil | apply NL.cons)) ?_)) | (refine XG_store ?_; (refine XL_store tt_ok 1 rfl rfl rfl rfl rfl rfl rfl rfl ?_; refine XL_nK 1 rfl (by repeat' (first | exact .nil | apply NL.cons)) ?_)) | (refine XL_op tt_ok rfl rfl ?_; try (refine XL_dec_t (by omega) ?_))) | (refine X_id ?_; first | refine X_seq ?_ | (refine X_regionN (by repeat' (first | exact .nil | apply NL.cons)) ?_) | refine X_ret ?_ | refine X_cond_t rfl ?_) | (refine Y_id ?_; first | refine Y_then ?_ | refine Y_then_ret ?_))
    all_goals first
      | exact Y_ret1 rfl rfl (stars_fin [1, 1] rfl fun h hh => ⟨(A2, c2), trivial, by rw [List.length_append]; exact hh⟩) ⟨rfl, rfl⟩
      | (exfalso; omega)
      | skip
    
  · rw [if_neg hlt]
    repeat' (first | (refine XL_id ?_; first | refine XL_nil ?_ | (refine XG_load ?_; first | refine XL_load tt_ok 0 rfl rfl rfl rfl rfl rfl ?_ | refine XL_load tt_ok 1 rfl rfl rfl rfl rfl rfl ?_) | (refine XG_call ?_; first | (refine XL_op tt_ok rfl rfl ?_) | (refine XL_app1 tt_ok 2 0 y rfl rfl rfl rfl rfl rfl rfl rfl rfl rfl rfl (by show (_ : Nat) * 8 ≤ _; omega) (by omega) (fun _ _ => rfl) (fun A2 c2 => ?_))) | (refine XG_lit ?_; (refine XL_lit tt_ok rfl rfl rfl rfl rfl rfl rfl rfl rfl (fun _ => rfl) (fun b => ?_); refine XL_nB (by repeat' (first | exact .nil | apply NL.cons)) ?_)) | (refine XG_store ?_; (refine XL_store tt_ok 1 rfl rfl rfl rfl rfl rfl rfl rfl ?_; refine XL_nK 1 rfl (by repeat' (first | exact .nil | apply NL.cons)) ?_)) | (refine XL_op tt_ok rfl rfl ?_; try (refine XL_dec_f (by omega) ?_))) | (refine X_id ?_; first | refine X_seq ?_ | (refine X_regionN (by repeat' (first | exact .nil | apply NL.cons)) ?_) | refine X_skip ?_ | refine X_ret ?_ | refine X_cond_f rfl ?_) | (refine Y_id ?_; refine Y_then ?_))
    all_goals first
      | exact Y_ret1 rfl rfl (stars_fin [1, 1] rfl fun h hh => ⟨(A2, c2), trivial, by rw [List.length_append]; exact hh⟩) ⟨rfl, rfl⟩
      | (exfalso; omega)
      | skip
    
theorem ask_used (q : Nat) (x : Do) (bs : List Bool) (ys : List Int) : Used 21 #[ptr q] #[] (fun h => rdS encB h x.B x.m bs) (isAsk q x) (ansA bs x.r) nxA (fun s k => s.length ≤ k) ys :=
  ⟨fun _ _ hl h => h.le hl, fun s k h => by omega, fun s k y _ h1 h2 => used_spec q x bs s y (by omega), fun s k y _ h => by unfold nxA; rw [List.length_append]; simp; omega⟩
end Go.Proofs.Ytgbcagcaaegciaa
