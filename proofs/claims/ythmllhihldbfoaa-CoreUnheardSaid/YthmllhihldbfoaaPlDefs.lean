/- Configurations: data, encodings; the small checks, program and reference. -/
import Derived.Test.YthmllhihldbfoaaGi
import Derived.Test.YthmllhihldbfoaaSlZ
set_option linter.unusedVariables false
namespace Go.Proofs.Ythmllhihldbfoaa.Pl
open Go.RowKit Go.Cof

abbrev uV (x : Int) : Value := .int .u64 x
abbrev bV (b : Bool) : Value := .bool b
/-- Costs. -/
structure Cs where
  l1 : Int
  ll : Int
  ms : Int
  fa : Int
  st : Int
  di : Int
deriving DecidableEq
abbrev csL (x : Cs) : List Value := [uV x.l1, uV x.ll, uV x.ms, uV x.fa, uV x.st, uV x.di]
abbrev csV (x : Cs) : Value := .agg #[uV x.l1, uV x.ll, uV x.ms, uV x.fa, uV x.st, uV x.di]
/-- A part: its numbers and colours. -/
structure Pd where
  o : Int
  u : Int
  t : Int
  s : Int
  r : Int
  d : Int
  k : Int
  xs : List Int
deriving DecidableEq
instance : Inhabited Pd := ⟨⟨0, 0, 0, 0, 0, 0, 0, []⟩⟩
/-- A part in memory: where its colours lie. -/
structure Pt where
  A : Option Addr
  m : Nat
  c : Nat
  d : Pd
instance : Inhabited Pt := ⟨⟨none, 0, 0, default⟩⟩
def encPt : Enc Pt := ⟨fun x => [.slice x.A x.m x.c, iV x.d.o, iV x.d.u, iV x.d.t, iV x.d.s, iV x.d.r, iV x.d.d, iV x.d.k], 8, fun _ => rfl, by decide, fun x u hu => by simp at hu; rcases hu with rfl | rfl | rfl | rfl | rfl | rfl | rfl | rfl <;> rfl⟩
abbrev ptV (x : Pt) : Value := .agg #[.slice x.A x.m x.c, iV x.d.o, iV x.d.u, iV x.d.t, iV x.d.s, iV x.d.r, iV x.d.d, iV x.d.k]
/-- A configuration, as data. -/
structure Cd where
  fr : Int
  co : Int
  wa : Int
  ls : Int
  lw : Int
  tl : Int
  cs : Cs
  sl : Int
  pd : Int
  fi : Int
  tn : List Int
  ps : List Pd
deriving DecidableEq
/-- Where its slices lie. -/
structure Ly where
  tA : Option Addr
  tm : Nat
  tc : Nat
  pA : Option Addr
  pm : Nat
  pc : Nat
  ps : List Pt
abbrev cfL (d : Cd) (y : Ly) : List Value := [iV d.fr, iV d.co, iV d.wa, iV d.ls, iV d.lw, iV d.tl, uV d.cs.l1, uV d.cs.ll, uV d.cs.ms, uV d.cs.fa, uV d.cs.st, uV d.cs.di, uV d.sl, uV d.pd, uV d.fi, .slice y.tA y.tm y.tc, .slice y.pA y.pm y.pc]
abbrev cfV (d : Cd) (y : Ly) : Value := .agg #[iV d.fr, iV d.co, iV d.wa, iV d.ls, iV d.lw, iV d.tl, uV d.cs.l1, uV d.cs.ll, uV d.cs.ms, uV d.cs.fa, uV d.cs.st, uV d.cs.di, uV d.sl, uV d.pd, uV d.fi, .slice y.tA y.tm y.tc, .slice y.pA y.pm y.pc]
abbrev u64In (x : Int) : Prop := 0 ≤ x ∧ x ≤ 18446744073709551615
abbrev i64In (x : Int) : Prop := -9223372036854775808 ≤ x ∧ x ≤ 9223372036854775807
structure Cs.In (x : Cs) : Prop where
  l1 : u64In x.l1
  ll : u64In x.ll
  ms : u64In x.ms
  fa : u64In x.fa
  st : u64In x.st
  di : u64In x.di
structure Pd.In (x : Pd) : Prop where
  o : i64In x.o
  u : i64In x.u
  t : i64In x.t
  s : i64In x.s
  r : i64In x.r
  d : i64In x.d
  k : i64In x.k
  xs : ∀ n ∈ x.xs, i64In n
structure Cd.In (d : Cd) : Prop where
  fr : i64In d.fr
  co : i64In d.co
  wa : i64In d.wa
  ls : i64In d.ls
  lw : i64In d.lw
  tl : i64In d.tl
  cs : d.cs.In
  sl : u64In d.sl
  pd : u64In d.pd
  fi : u64In d.fi
  tn : ∀ n ∈ d.tn, i64In n
  ps : ∀ p ∈ d.ps, p.In
/-- The slices can be of these lengths. -/
structure Ly.Fit (y : Ly) : Prop where
  t : y.tm * 8 ≤ 140737488355328
  p : y.pm * 80 ≤ 140737488355328
  x : ∀ p ∈ y.ps, p.m * 8 ≤ 140737488355328
  cap : y.pm ≤ y.pc ∧ y.pc ≤ 9223372036854775807
/-- What is read of a configuration. -/
structure CfR (h : Hp) (d : Cd) (y : Ly) : Prop where
  tn : rdS encN h y.tA y.tm d.tn
  ps : rdS encPt h y.pA y.pm y.ps
  xs : ∀ p ∈ y.ps, rdS encN h p.A p.m p.d.xs
  eq : y.ps.map Pt.d = d.ps
theorem CfR.le {g h : Hp} {d : Cd} {y : Ly} (r : CfR g d y) (hl : Hp.le g h) : CfR h d y := ⟨r.tn.le hl, r.ps.le hl, fun p hp => (r.xs p hp).le hl, r.eq⟩
theorem CfR.len {h : Hp} {d : Cd} {y : Ly} (r : CfR h d y) : d.ps.length = y.pm := by
  have := r.ps.1
  rw [← r.eq, List.length_map, this]
/-! the machine -/
abbrev pw (n : Int) : Prop := bits .and .i64 n (n - 1) = 0
structure MachP (d : Cd) : Prop where
  co : 1 ≤ d.co ∧ d.co ≤ 16
  cop : pw d.co
  fr : 1 ≤ d.fr ∧ d.fr ≤ 4096
  div : d.fr.tmod d.co = 0
  ls : 1 ≤ d.ls ∧ d.ls ≤ 4096
  lsp : pw d.ls
  wa : 1 ≤ d.wa ∧ d.wa ≤ 16
  lw : 1 ≤ d.lw ∧ d.lw ≤ 16
  tl : 1 ≤ d.tl ∧ d.tl ≤ 64
  ps : 1 ≤ d.ps.length ∧ d.ps.length ≤ 8
theorem MachP.iff (d : Cd) : MachP d ↔ ((1 ≤ d.co ∧ d.co ≤ 16) ∧ pw d.co) ∧ (1 ≤ d.fr ∧ d.fr ≤ 4096) ∧ d.fr.tmod d.co = 0 ∧ ((1 ≤ d.ls ∧ d.ls ≤ 4096) ∧ pw d.ls) ∧ (1 ≤ d.wa ∧ d.wa ≤ 16) ∧ (1 ≤ d.lw ∧ d.lw ≤ 16) ∧ (1 ≤ d.tl ∧ d.tl ≤ 64) ∧ (1 ≤ (d.ps.length : Int) ∧ (d.ps.length : Int) ≤ 8) :=
  ⟨fun ⟨a, b, c, e, f, g, h, i, j, k⟩ => ⟨⟨a, b⟩, c, e, ⟨f, g⟩, h, i, j, by omega⟩, fun ⟨⟨a, b⟩, c, e, ⟨f, g⟩, h, i, j, k⟩ => ⟨a, b, c, e, f, g, h, i, j, by omega⟩⟩
instance (d : Cd) : Decidable (MachP d) := decidable_of_iff _ (MachP.iff d).symm
/-! costs -/
structure CostP (x : Cs) : Prop where
  l1 : 1 ≤ x.l1
  ll : x.l1 ≤ x.ll
  ms : x.ll ≤ x.ms
  top : x.ms ≤ 65536
  fa : 1 ≤ x.fa ∧ x.fa ≤ 65536
  st : 1 ≤ x.st ∧ x.st ≤ 65536
  di : 1 ≤ x.di ∧ x.di ≤ 65536
theorem CostP.iff (x : Cs) : CostP x ↔ 1 ≤ x.l1 ∧ x.l1 ≤ x.ll ∧ x.ll ≤ x.ms ∧ x.ms ≤ 65536 ∧ (1 ≤ x.fa ∧ x.fa ≤ 65536) ∧ (1 ≤ x.st ∧ x.st ≤ 65536) ∧ (1 ≤ x.di ∧ x.di ≤ 65536) :=
  ⟨fun ⟨a, b, c, e, f, g, h⟩ => ⟨a, b, c, e, f, g, h⟩, fun ⟨a, b, c, e, f, g, h⟩ => ⟨a, b, c, e, f, g, h⟩⟩
instance (x : Cs) : Decidable (CostP x) := decidable_of_iff _ (CostP.iff x).symm
def costE (x : Cs) : Int := if CostP x then 0 else 100
theorem costE_ok {x : Cs} (h : CostP x) : costE x = 0 := if_pos h
theorem costE_no {x : Cs} (h : ¬ CostP x) : costE x = 100 := if_neg h
/-! walks -/
theorem pwithin_spec (x a b : Int) : FnC Try.prog 55 [iV x, iV a, iV b] (fun _ => True) (.bool (decide (a ≤ x ∧ x ≤ b))) := by
  refine Ctr.intro Try.func55 rfl rfl (by decide +kernel) fun F hpre => ?_
  repeat' (first | (refine XL_id ?_; first | refine XL_nil ?_ | refine XL_guard_yes rfl rfl rfl ?_ | refine XL_guard_no rfl rfl rfl rfl rfl ?_ | (refine XL_op tt_ok rfl rfl ?_; try (refine XL_dec (fun _ => ?_) (fun _ => ?_)))) | (refine X_id ?_; first | refine X_seq ?_ | (refine X_regionN (by repeat' (exact .nil)) ?_) | refine X_ret ?_) | (refine Y_id ?_; refine Y_then ?_))
  all_goals first
    | (refine Y_fn1 rfl rfl ?_; first | exact bool_t (by omega) | exact bool_f (by omega))
    | skip
  
theorem cwithin_spec (x a b : Int) : FnC Try.prog 51 [iV x, iV a, iV b] (fun _ => True) (.bool (decide (a ≤ x ∧ x ≤ b))) := by
  refine Ctr.intro Try.func51 rfl rfl (by decide +kernel) fun F hpre => ?_
  repeat' (first | (refine XL_id ?_; first | refine XL_nil ?_ | refine XL_guard_yes rfl rfl rfl ?_ | refine XL_guard_no rfl rfl rfl rfl rfl ?_ | (refine XL_op tt_ok rfl rfl ?_; try (refine XL_dec (fun _ => ?_) (fun _ => ?_)))) | (refine X_id ?_; first | refine X_seq ?_ | (refine X_regionN (by repeat' (exact .nil)) ?_) | refine X_ret ?_) | (refine Y_id ?_; refine Y_then ?_))
  all_goals first
    | (refine Y_fn1 rfl rfl ?_; first | exact bool_t (by omega) | exact bool_f (by omega))
    | skip
  
theorem power_spec (n most : Int) (h1 : -9223372036854775808 ≤ n) (h2 : n ≤ 9223372036854775807) : FnC Try.prog 54 [iV n, iV most] (fun _ => True) (.bool (decide ((1 ≤ n ∧ n ≤ most) ∧ pw n))) := by
  refine Ctr.intro Try.func54 rfl rfl (by decide +kernel) fun F hpre => ?_
  repeat' (first | (refine XL_id ?_; first | refine XL_nil ?_ | refine XL_guard_yes rfl rfl rfl ?_ | refine XL_guard_no rfl rfl rfl rfl rfl ?_ | (refine XG_call ?_; (refine XL_fn (pwithin_spec _ _ _) rfl rfl (fun _ _ _ => trivial) ?_; refine XL_dec (fun _ => ?_) (fun _ => ?_))) | (refine XL_op tt_ok rfl rfl ?_; try (first | refine XL_int (wrap_i64 (by omega) (by omega)) ?_ | refine XL_dec (fun _ => ?_) (fun _ => ?_)))) | (refine X_id ?_; first | refine X_seq ?_ | (refine X_regionN (by repeat' (exact .nil)) ?_) | refine X_ret ?_) | (refine Y_id ?_; refine Y_then ?_))
  all_goals first
    | (refine Y_fn1 rfl rfl ?_; first | exact bool_t ⟨by assumption, by assumption⟩ | exact bool_f (fun h => absurd h.1 (by assumption)) | exact bool_f (fun h => absurd h.2 (by assumption)))
    | skip
  
end Go.Proofs.Ythmllhihldbfoaa.Pl
