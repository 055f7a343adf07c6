/- Configurations: data, encodings; the small checks, program and reference. The machine and the costs, checked: program and reference; Switch. The worst costs: program and reference. Most: the program's. Most: the program's (printed by genm.py). Plain: colours and quotas of a part. The colours of a part: program and reference. -/
import Derived.Test.YtalkcemelegohaaGxGi
import Derived.Test.YtalkcemelegohaaSlZ
set_option linter.unusedVariables false
set_option maxRecDepth 100000
namespace Go.Proofs.Ytalkcemelegohaa.Pl
open Go.RowKit Go.Cof Gx

abbrev uV (x : Int) : Value := .int .u64 x
abbrev bV (b : Bool) : Value := .bool b
/-- Costs. -/
structure Cs where
  l1 : Int
  ll : Int
  ms : Int
  fa : Int
  st : Int
  di : Int
deriving DecidableEq
abbrev csL (x : Cs) : List Value := [uV x.l1, uV x.ll, uV x.ms, uV x.fa, uV x.st, uV x.di]
abbrev csV (x : Cs) : Value := .agg #[uV x.l1, uV x.ll, uV x.ms, uV x.fa, uV x.st, uV x.di]
/-- A part: its numbers and colours. -/
structure Pd where
  o : Int
  u : Int
  t : Int
  s : Int
  r : Int
  d : Int
  k : Int
  xs : List Int
deriving DecidableEq
instance : Inhabited Pd := ⟨⟨0, 0, 0, 0, 0, 0, 0, []⟩⟩
/-- A part in memory: where its colours lie. -/
structure Pt where
  A : Option Addr
  m : Nat
  c : Nat
  d : Pd
instance : Inhabited Pt := ⟨⟨none, 0, 0, default⟩⟩
def encPt : Enc Pt := ⟨fun x => [.slice x.A x.m x.c, iV x.d.o, iV x.d.u, iV x.d.t, iV x.d.s, iV x.d.r, iV x.d.d, iV x.d.k], 8, fun _ => rfl, by decide, fun x u hu => by simp at hu; rcases hu with rfl | rfl | rfl | rfl | rfl | rfl | rfl | rfl <;> rfl⟩
abbrev ptV (x : Pt) : Value := .agg #[.slice x.A x.m x.c, iV x.d.o, iV x.d.u, iV x.d.t, iV x.d.s, iV x.d.r, iV x.d.d, iV x.d.k]
/-- A configuration, as data. -/
structure Cd where
  fr : Int
  co : Int
  wa : Int
  ls : Int
  lw : Int
  tl : Int
  cs : Cs
  sl : Int
  pd : Int
  fi : Int
  tn : List Int
  ps : List Pd
deriving DecidableEq
/-- Where its slices lie. -/
structure Ly where
  tA : Option Addr
  tm : Nat
  tc : Nat
  pA : Option Addr
  pm : Nat
  pc : Nat
  ps : List Pt
abbrev cfL (d : Cd) (y : Ly) : List Value := [iV d.fr, iV d.co, iV d.wa, iV d.ls, iV d.lw, iV d.tl, uV d.cs.l1, uV d.cs.ll, uV d.cs.ms, uV d.cs.fa, uV d.cs.st, uV d.cs.di, uV d.sl, uV d.pd, uV d.fi, .slice y.tA y.tm y.tc, .slice y.pA y.pm y.pc]
abbrev cfV (d : Cd) (y : Ly) : Value := .agg #[iV d.fr, iV d.co, iV d.wa, iV d.ls, iV d.lw, iV d.tl, uV d.cs.l1, uV d.cs.ll, uV d.cs.ms, uV d.cs.fa, uV d.cs.st, uV d.cs.di, uV d.sl, uV d.pd, uV d.fi, .slice y.tA y.tm y.tc, .slice y.pA y.pm y.pc]
abbrev u64In (x : Int) : Prop := 0 ≤ x ∧ x ≤ 18446744073709551615
abbrev i64In (x : Int) : Prop := -9223372036854775808 ≤ x ∧ x ≤ 9223372036854775807
structure Cs.In (x : Cs) : Prop where
  l1 : u64In x.l1
  ll : u64In x.ll
  ms : u64In x.ms
  fa : u64In x.fa
  st : u64In x.st
  di : u64In x.di
structure Pd.In (x : Pd) : Prop where
  o : i64In x.o
  u : i64In x.u
  t : i64In x.t
  s : i64In x.s
  r : i64In x.r
  d : i64In x.d
  k : i64In x.k
  xs : ∀ n ∈ x.xs, i64In n
structure Cd.In (d : Cd) : Prop where
  fr : i64In d.fr
  co : i64In d.co
  wa : i64In d.wa
  ls : i64In d.ls
  lw : i64In d.lw
  tl : i64In d.tl
  cs : d.cs.In
  sl : u64In d.sl
  pd : u64In d.pd
  fi : u64In d.fi
  tn : ∀ n ∈ d.tn, i64In n
  ps : ∀ p ∈ d.ps, p.In
/-- The slices can be of these lengths. -/
structure Ly.Fit (y : Ly) : Prop where
  t : y.tm * 8 ≤ 140737488355328
  p : y.pm * 80 ≤ 140737488355328
  x : ∀ p ∈ y.ps, p.m * 8 ≤ 140737488355328
  cap : y.pm ≤ y.pc ∧ y.pc ≤ 9223372036854775807
/-- What is read of a configuration. -/
structure CfR (h : Hp) (d : Cd) (y : Ly) : Prop where
  tn : rdS encN h y.tA y.tm d.tn
  ps : rdS encPt h y.pA y.pm y.ps
  xs : ∀ p ∈ y.ps, rdS encN h p.A p.m p.d.xs
  eq : y.ps.map Pt.d = d.ps
theorem CfR.le {g h : Hp} {d : Cd} {y : Ly} (r : CfR g d y) (hl : Hp.le g h) : CfR h d y := ⟨r.tn.le hl, r.ps.le hl, fun p hp => (r.xs p hp).le hl, r.eq⟩
theorem CfR.len {h : Hp} {d : Cd} {y : Ly} (r : CfR h d y) : d.ps.length = y.pm := by
  have := r.ps.1
  rw [← r.eq, List.length_map, this]
/-! the machine -/
abbrev pw (n : Int) : Prop := bits .and .i64 n (n - 1) = 0
structure MachP (d : Cd) : Prop where
  co : 1 ≤ d.co ∧ d.co ≤ 16
  cop : pw d.co
  fr : 1 ≤ d.fr ∧ d.fr ≤ 4096
  div : d.fr.tmod d.co = 0
  ls : 1 ≤ d.ls ∧ d.ls ≤ 4096
  lsp : pw d.ls
  wa : 1 ≤ d.wa ∧ d.wa ≤ 16
  lw : 1 ≤ d.lw ∧ d.lw ≤ 16
  tl : 1 ≤ d.tl ∧ d.tl ≤ 64
  ps : 1 ≤ d.ps.length ∧ d.ps.length ≤ 8
theorem MachP.iff (d : Cd) : MachP d ↔ ((1 ≤ d.co ∧ d.co ≤ 16) ∧ pw d.co) ∧ (1 ≤ d.fr ∧ d.fr ≤ 4096) ∧ d.fr.tmod d.co = 0 ∧ ((1 ≤ d.ls ∧ d.ls ≤ 4096) ∧ pw d.ls) ∧ (1 ≤ d.wa ∧ d.wa ≤ 16) ∧ (1 ≤ d.lw ∧ d.lw ≤ 16) ∧ (1 ≤ d.tl ∧ d.tl ≤ 64) ∧ (1 ≤ (d.ps.length : Int) ∧ (d.ps.length : Int) ≤ 8) :=
  ⟨fun ⟨a, b, c, e, f, g, h, i, j, k⟩ => ⟨⟨a, b⟩, c, e, ⟨f, g⟩, h, i, j, by omega⟩, fun ⟨⟨a, b⟩, c, e, ⟨f, g⟩, h, i, j, k⟩ => ⟨a, b, c, e, f, g, h, i, j, by omega⟩⟩
instance (d : Cd) : Decidable (MachP d) := decidable_of_iff _ (MachP.iff d).symm
/-! costs -/
structure CostP (x : Cs) : Prop where
  l1 : 1 ≤ x.l1
  ll : x.l1 ≤ x.ll
  ms : x.ll ≤ x.ms
  top : x.ms ≤ 65536
  fa : 1 ≤ x.fa ∧ x.fa ≤ 65536
  st : 1 ≤ x.st ∧ x.st ≤ 65536
  di : 1 ≤ x.di ∧ x.di ≤ 65536
theorem CostP.iff (x : Cs) : CostP x ↔ 1 ≤ x.l1 ∧ x.l1 ≤ x.ll ∧ x.ll ≤ x.ms ∧ x.ms ≤ 65536 ∧ (1 ≤ x.fa ∧ x.fa ≤ 65536) ∧ (1 ≤ x.st ∧ x.st ≤ 65536) ∧ (1 ≤ x.di ∧ x.di ≤ 65536) :=
  ⟨fun ⟨a, b, c, e, f, g, h⟩ => ⟨a, b, c, e, f, g, h⟩, fun ⟨a, b, c, e, f, g, h⟩ => ⟨a, b, c, e, f, g, h⟩⟩
instance (x : Cs) : Decidable (CostP x) := decidable_of_iff _ (CostP.iff x).symm
def costE (x : Cs) : Int := if CostP x then 0 else 100
theorem costE_ok {x : Cs} (h : CostP x) : costE x = 0 := if_pos h
theorem costE_no {x : Cs} (h : ¬ CostP x) : costE x = 100 := if_neg h
/-! walks -/
theorem pwithin_spec (x a b : Int) : FnC Try.prog 123 [iV x, iV a, iV b] (fun _ => True) (.bool (decide (a ≤ x ∧ x ≤ b))) := by
  refine Ctr.intro Try.func123 rfl rfl (by decide +kernel) fun F hpre => ?_
  repeat' (first | (refine XL_id ?_; first | refine XL_nil ?_ | refine XL_guard_yes rfl rfl rfl ?_ | refine XL_guard_no rfl rfl rfl rfl rfl ?_ | (refine XL_op tt_ok rfl rfl ?_; try (refine XL_dec (fun _ => ?_) (fun _ => ?_)))) | (refine X_id ?_; first | refine X_seq ?_ | (refine X_regionN (by repeat' (exact .nil)) ?_) | refine X_ret ?_) | (refine Y_id ?_; refine Y_then ?_))
  all_goals first
    | (refine Y_fn1 rfl rfl ?_; first | exact bool_t (by omega) | exact bool_f (by omega))
    | skip
  
theorem cwithin_spec (x a b : Int) : FnC Try.prog 130 [iV x, iV a, iV b] (fun _ => True) (.bool (decide (a ≤ x ∧ x ≤ b))) := by
  refine Ctr.intro Try.func130 rfl rfl (by decide +kernel) fun F hpre => ?_
  repeat' (first | (refine XL_id ?_; first | refine XL_nil ?_ | refine XL_guard_yes rfl rfl rfl ?_ | refine XL_guard_no rfl rfl rfl rfl rfl ?_ | (refine XL_op tt_ok rfl rfl ?_; try (refine XL_dec (fun _ => ?_) (fun _ => ?_)))) | (refine X_id ?_; first | refine X_seq ?_ | (refine X_regionN (by repeat' (exact .nil)) ?_) | refine X_ret ?_) | (refine Y_id ?_; refine Y_then ?_))
  all_goals first
    | (refine Y_fn1 rfl rfl ?_; first | exact bool_t (by omega) | exact bool_f (by omega))
    | skip
  
theorem rwithin_spec (x a b : Int) : FnC Try.prog 42 [iV x, iV a, iV b] (fun _ => True) (.bool (decide (a ≤ x ∧ x ≤ b))) := by
  refine Ctr.intro Try.func42 rfl rfl (by decide +kernel) fun F hpre => ?_
  repeat' (first | (refine XL_id ?_; first | refine XL_nil ?_ | refine XL_guard_yes rfl rfl rfl ?_ | refine XL_guard_no rfl rfl rfl rfl rfl ?_ | (refine XL_op tt_ok rfl rfl ?_; try (refine XL_dec (fun _ => ?_) (fun _ => ?_)))) | (refine X_id ?_; first | refine X_seq ?_ | (refine X_regionN (by repeat' (exact .nil)) ?_) | refine X_ret ?_) | (refine Y_id ?_; refine Y_then ?_))
  all_goals first
    | (refine Y_fn1 rfl rfl ?_; first | exact bool_t (by omega) | exact bool_f (by omega))
    | skip
  
theorem power_spec (n most : Int) (h1 : -9223372036854775808 ≤ n) (h2 : n ≤ 9223372036854775807) : FnC Try.prog 122 [iV n, iV most] (fun _ => True) (.bool (decide ((1 ≤ n ∧ n ≤ most) ∧ pw n))) := by
  refine Ctr.intro Try.func122 rfl rfl (by decide +kernel) fun F hpre => ?_
  repeat' (first | (refine XL_id ?_; first | refine XL_nil ?_ | refine XL_guard_yes rfl rfl rfl ?_ | refine XL_guard_no rfl rfl rfl rfl rfl ?_ | (refine XG_call ?_; (refine XL_fn (pwithin_spec _ _ _) rfl rfl (fun _ _ _ => trivial) ?_; refine XL_dec (fun _ => ?_) (fun _ => ?_))) | (refine XL_op tt_ok rfl rfl ?_; try (first | refine XL_int (wrap_i64 (by omega) (by omega)) ?_ | refine XL_dec (fun _ => ?_) (fun _ => ?_)))) | (refine X_id ?_; first | refine X_seq ?_ | (refine X_regionN (by repeat' (exact .nil)) ?_) | refine X_ret ?_) | (refine Y_id ?_; refine Y_then ?_))
  all_goals first
    | (refine Y_fn1 rfl rfl ?_; first | exact bool_t ⟨by assumption, by assumption⟩ | exact bool_f (fun h => absurd h.1 (by assumption)) | exact bool_f (fun h => absurd h.2 (by assumption)))
    | skip
  
end Go.Proofs.Ytalkcemelegohaa.Pl
set_option linter.unusedVariables false
set_option maxRecDepth 100000
namespace Go.Proofs.Ytalkcemelegohaa.Pl
open Go.RowKit Go.Cof Gx

set_option maxHeartbeats 4000000 in
theorem ccheck_spec (x : Cs) (hx : x.In) : FnC Try.prog 118 [csV x] (fun _ => True) (iV (costE x)) := by
  obtain ⟨h1, h2, h3, h4, h5, h6⟩ := hx
  refine Ctr.intro Try.func118 rfl rfl (by decide +kernel) fun F hpre => ?_
  repeat' (first | (refine XL_id ?_; first | refine XL_nil ?_ | refine XL_guard_yes rfl rfl rfl ?_ | refine XL_guard_no rfl rfl rfl rfl rfl ?_ | (refine XG_load ?_; first | refine XL_load tt_ok 0 rfl rfl rfl rfl rfl rfl ?_ | refine XL_load tt_ok 1 rfl rfl rfl rfl rfl rfl ?_) | (refine XG_idx ?_; refine XL_idxl tt_ok rfl rfl rfl rfl rfl (by decide) (by decide) rfl ?_) | (refine XG_box ?_; (refine XL_box rfl (fun _ => rfl) (fun _ => ?_); refine XL_nB (by repeat' (first | exact .nil | apply NL.cons)) ?_)) | (refine XG_lit ?_; (refine XL_lit tt_ok rfl rfl rfl rfl rfl rfl rfl rfl rfl (fun _ => rfl) (fun b => ?_); refine XL_nB (by repeat' (first | exact .nil | apply NL.cons)) ?_)) | (refine XL_op tt_ok rfl rfl ?_; try (first | refine XL_int (wrap_i64 (by omega) (by omega)) ?_ | refine XL_dec_t (by omega) ?_ | refine XL_dec_f (by omega) ?_ | refine XL_dec (fun _ => ?_) (fun _ => ?_)))) | (refine X_id ?_; first | refine X_unroll 3 ?_ | refine X_seq ?_ | (refine X_regionN (by repeat' (first | exact .nil | apply NL.cons)) ?_) | refine X_skip ?_ | refine X_ret ?_ | refine X_exit ?_ | refine X_block ?_ | refine X_cond_t rfl ?_ | refine X_cond_f rfl ?_) | (refine Y_id ?_; first | refine Y_unroll ?_ | refine Y_then ?_ | refine Y_then_ret ?_ | refine Y_then_exit ?_ | refine Y_block_hit ?_ | refine Y_block_normal ?_ | refine Y_block_ret ?_))
  all_goals first
    | (refine Y_fn1 rfl rfl ?_; first | exact congrArg iV (costE_ok ⟨by omega, by omega, by omega, by omega, by omega, by omega, by omega⟩).symm | exact congrArg iV (costE_no (fun h => by have a := (CostP.iff x).1 h; omega)).symm)
    | (exfalso; omega)
    | skip
  
set_option maxHeartbeats 4000000 in
theorem machine_spec (d : Cd) (y : Ly) (hd : d.In) (hl : d.ps.length = y.pm) : FnC Try.prog 117 [cfV d y] (fun _ => True) (.bool (decide (MachP d))) := by
  have h1 := hd.co
  have h2 := hd.ls
  have hp1 := power_spec d.co 16 h1.1 h1.2
  have hp2 := power_spec d.ls 4096 h2.1 h2.2
  refine Ctr.intro Try.func117 rfl rfl (by decide +kernel) fun F hpre => ?_
  repeat' (first | (refine XL_id ?_; first | refine XL_nil ?_ | refine XL_guard_yes rfl rfl rfl ?_ | refine XL_guard_no rfl rfl rfl rfl rfl ?_ | (refine XG_load ?_; refine XL_load tt_ok 0 rfl rfl rfl rfl rfl rfl ?_) | (refine XG_box ?_; (refine XL_box rfl (fun _ => rfl) (fun _ => ?_); refine XL_nB (by repeat' (first | exact .nil | apply NL.cons)) ?_)) | (refine XG_call ?_; first | (refine XL_op tt_ok rfl rfl ?_) | (refine XL_fn hp1 rfl rfl (fun _ _ _ => trivial) ?_; refine XL_dec (fun _ => ?_) (fun _ => ?_)) | (refine XL_fn hp2 rfl rfl (fun _ _ _ => trivial) ?_; refine XL_dec (fun _ => ?_) (fun _ => ?_)) | (refine XL_fn (pwithin_spec _ _ _) rfl rfl (fun _ _ _ => trivial) ?_; refine XL_dec (fun _ => ?_) (fun _ => ?_))) | refine XL_op tt_ok (opV_rem rfl rfl (by omega)) rfl ?_ | (refine XL_op tt_ok rfl rfl ?_; try (refine XL_dec (fun _ => ?_) (fun _ => ?_)))) | (refine X_id ?_; first | refine X_seq ?_ | (refine X_regionN (by repeat' (first | exact .nil | apply NL.cons)) ?_) | refine X_ret ?_) | (refine Y_id ?_; refine Y_then ?_))
  all_goals first
    | (refine Y_fn1 rfl rfl ?_; first | exact bool_t ((MachP.iff d).2 (by omega)) | exact bool_f (fun h => by have a := (MachP.iff d).1 h; omega))
    | (exfalso; omega)
    | skip
  
/-- What Switch answers where the numbers fit. -/
theorem switch_spec (x : Cs) (hx : x.In) (n t : Int) (hc : CostP x) (h1 : 0 ≤ n ∧ n ≤ 65536) (h2 : 0 ≤ t ∧ t ≤ 64) : FnC Try.prog 124 [csV x, iV n, iV t] (fun _ => True) (.tuple #[uV ((n + t) * x.st), iV 0]) := by
  have hck := ccheck_spec x hx
  rw [costE_ok hc] at hck
  have hs := hc.st
  have hb : 0 ≤ (n + t) * x.st ∧ (n + t) * x.st ≤ 65600 * 65536 := ⟨Int.mul_nonneg (by omega) (by omega), Int.mul_le_mul (by omega) hs.2 (by omega) (by omega)⟩
  refine Ctr.intro Try.func124 rfl rfl (by decide +kernel) fun F hpre => ?_
  repeat' (first | (refine XL_id ?_; first | refine XL_nil ?_ | refine XL_guard_yes rfl rfl rfl ?_ | (refine XG_load ?_; first | refine XL_loadW tt_ok 0 rfl rfl rfl rfl rfl rfl ?_ | refine XL_load tt_ok 0 rfl rfl rfl rfl rfl rfl ?_) | (refine XG_box ?_; (refine XL_box rfl (fun _ => rfl) (fun _ => ?_); refine XL_nB (by repeat' (first | exact .nil | apply NL.cons)) ?_)) | (refine XG_call ?_; first | refine XL_fn hck rfl rfl (fun _ _ _ => trivial) ?_ | (refine XL_fn (cwithin_spec _ _ _) rfl rfl (fun _ _ _ => trivial) ?_; refine XL_dec_t (by omega) ?_)) | (refine XL_op tt_ok rfl rfl ?_; try (first | refine XL_int (wrap_i64 (by omega) (by omega)) ?_ | refine XL_int (wrap_u64 (by omega) (by omega)) ?_ | refine XL_dec_f (by omega) ?_))) | (refine X_id ?_; first | refine X_seq ?_ | (refine X_regionN (by repeat' (first | exact .nil | apply NL.cons)) ?_) | refine X_skip ?_ | refine X_ret ?_ | refine X_cond_f rfl ?_) | (refine Y_id ?_; refine Y_then ?_))
  all_goals first
    | exact Y_fn2 rfl rfl rfl rfl
    | (exfalso; omega)
    | skip
  
end Go.Proofs.Ytalkcemelegohaa.Pl
set_option linter.unusedVariables false
set_option maxRecDepth 100000
namespace Go.Proofs.Ytalkcemelegohaa.Pl
open Go.RowKit Go.Cof Gx

abbrev ptr (p : Nat) : Value := .pointer (some ⟨p, 0, none⟩)
structure Sh where
  im : Int
  us : Int
  li : Int
  no : Int
deriving DecidableEq
abbrev shL (s : Sh) : List Value := [iV s.im, iV s.us, iV s.li, iV s.no]
abbrev shV (s : Sh) : Value := .agg #[iV s.im, iV s.us, iV s.li, iV s.no]
structure ShP (s : Sh) : Prop where
  im : s.im = 1 ∨ s.im = 2 ∨ s.im = 4 ∨ s.im = 8
  us : 2 ≤ s.us ∧ s.us ≤ 4096
  li : 1 ≤ s.li ∧ s.li ≤ 5120
  no : 1 ≤ s.no ∧ s.no ≤ 4096
abbrev mx (x y : Int) : Int := if y > x then y else x
/-- What the calls' bounds are made of: a page, all pages, a frame. -/
abbrev pgF (x : Cs) : Int := x.st + 2 * x.ms
abbrev alF (x : Cs) (s : Sh) : Int := s.li * pgF x
abbrev frF (x : Cs) (s : Sh) : Int := (2 * s.us + 1) * x.st + x.di
def bhL (m st fa di no pg al fr : Int) : List Int := [0, 17 * m, al + m, m + 16 * no * m + al, 113 * m, 64 * pg, 64 * (st + m) + m, mx (113 * m) (64 * pg), 26 * m + fa + fr + di, 64 * m + 2 * fa + 2 * fr + di]
abbrev bhs (x : Cs) (s : Sh) : List Int := bhL x.ms x.st x.fa x.di s.no (pgF x) (alF x s) (frF x s)
def mxL (l : List Int) : Int := l.foldl mx 0
def mostF (x : Cs) (s : Sh) : Int := s.im * x.ms + mxL (bhs x s)
/-- The numbers' bounds. -/
structure Nums (m st fa di im no li us pg al fr : Int) : Prop where
  hm : 1 ≤ m ∧ m ≤ 65536
  hst : 1 ≤ st ∧ st ≤ 65536
  hfa : 1 ≤ fa ∧ fa ≤ 65536
  hdi : 1 ≤ di ∧ di ≤ 65536
  hpg : pg = st + 2 * m
  hal : al = li * pg
  alb : 0 ≤ al ∧ al ≤ 1006632960
  hfr : fr = (2 * us + 1) * st + di
  frs : 0 ≤ (2 * us + 1) * st ∧ (2 * us + 1) * st ≤ 536936448
  hno : 0 ≤ 16 * no * m ∧ 16 * no * m ≤ 4294967296
  him : 0 ≤ im * m ∧ im * m ≤ 524288
theorem nums {x : Cs} {s : Sh} (hc : CostP x) (hs : ShP s) : Nums x.ms x.st x.fa x.di s.im s.no s.li s.us (pgF x) (alF x s) (frF x s) := by
  have a1 := hc.l1; have a2 := hc.ll; have a3 := hc.ms; have a4 := hc.top
  have h1 := hs.us; have h2 := hs.li; have h3 := hs.no; have h4 := hs.im
  have b := hc.st
  refine ⟨by omega, hc.st, hc.fa, hc.di, rfl, rfl, ⟨Int.mul_nonneg (by omega) (by show 0 ≤ x.st + 2 * x.ms; omega), ?_⟩, rfl, ⟨Int.mul_nonneg (by omega) (by omega), ?_⟩, ⟨Int.mul_nonneg (by omega) (by omega), ?_⟩, ⟨Int.mul_nonneg (by omega) (by omega), ?_⟩⟩
  · exact Int.le_trans (Int.mul_le_mul h2.2 (show x.st + 2 * x.ms ≤ 196608 by omega) (by show 0 ≤ x.st + 2 * x.ms; omega) (by decide)) (by decide)
  · exact Int.le_trans (Int.mul_le_mul (show 2 * s.us + 1 ≤ 8193 by omega) b.2 (by omega) (by decide)) (by decide)
  · exact Int.le_trans (Int.mul_le_mul (show 16 * s.no ≤ 65536 by omega) a4 (by omega) (by decide)) (by decide)
  · exact Int.le_trans (Int.mul_le_mul (show s.im ≤ 8 by omega) a4 (by omega) (by decide)) (by decide)
theorem clo1_spec (m : Int) (a : Nat) (hb : 0 ≤ m ∧ m ≤ 65536) : FnC Try.prog 137 [ptr a] (fun h => blk a [uV m] 49 h) (uV (113 * m)) := by
  refine Ctr.intro Try.func137 rfl rfl (by decide +kernel) fun F hpre => ?_
  have hpre : blk a [uV m] 49 F.heap := hpre
  have q0 := hpre
  repeat' (first | (refine XL_id ?_; first | refine XL_nil ?_ | (refine XG_load ?_; refine XL_loadF tt_ok rfl (by assumption) rfl rfl rfl rfl ?_) | (refine XL_op tt_ok rfl rfl ?_; try (refine XL_int (wrap_u64 (by omega) (by omega)) ?_))) | (refine X_id ?_; first | refine X_seq ?_ | (refine X_regionN (by repeat' (exact .nil)) ?_) | refine X_ret ?_) | (refine Y_id ?_; refine Y_then ?_))
  all_goals first
    | exact Y_fn1 rfl rfl rfl
    | skip
  
theorem clo2_spec (pg : Int) (a : Nat) (hb : 0 ≤ pg ∧ pg ≤ 196608) : FnC Try.prog 138 [ptr a] (fun h => blk a [uV pg] 49 h) (uV (64 * pg)) := by
  refine Ctr.intro Try.func138 rfl rfl (by decide +kernel) fun F hpre => ?_
  have hpre : blk a [uV pg] 49 F.heap := hpre
  have q0 := hpre
  repeat' (first | (refine XL_id ?_; first | refine XL_nil ?_ | (refine XG_load ?_; refine XL_loadF tt_ok rfl (by assumption) rfl rfl rfl rfl ?_) | (refine XL_op tt_ok rfl rfl ?_; try (refine XL_int (wrap_u64 (by omega) (by omega)) ?_))) | (refine X_id ?_; first | refine X_seq ?_ | (refine X_regionN (by repeat' (exact .nil)) ?_) | refine X_ret ?_) | (refine Y_id ?_; refine Y_then ?_))
  all_goals first
    | exact Y_fn1 rfl rfl rfl
    | skip
  
theorem clo4_spec (m : Int) (a : Nat) (hb : 0 ≤ m ∧ m ≤ 65536) : FnC Try.prog 140 [ptr a] (fun h => blk a [uV m] 49 h) (uV (17 * m)) := by
  refine Ctr.intro Try.func140 rfl rfl (by decide +kernel) fun F hpre => ?_
  have hpre : blk a [uV m] 49 F.heap := hpre
  have q0 := hpre
  repeat' (first | (refine XL_id ?_; first | refine XL_nil ?_ | (refine XG_load ?_; refine XL_loadF tt_ok rfl (by assumption) rfl rfl rfl rfl ?_) | (refine XL_op tt_ok rfl rfl ?_; try (refine XL_int (wrap_u64 (by omega) (by omega)) ?_))) | (refine X_id ?_; first | refine X_seq ?_ | (refine X_regionN (by repeat' (exact .nil)) ?_) | refine X_ret ?_) | (refine Y_id ?_; refine Y_then ?_))
  all_goals first
    | exact Y_fn1 rfl rfl rfl
    | skip
  
theorem clo5_spec (al m : Int) (a b : Nat) (hb : (0 ≤ m ∧ m ≤ 65536) ∧ 0 ≤ al ∧ al ≤ 1006632960) : FnC Try.prog 141 [ptr a, ptr b] (fun h => blk a [uV al] 49 h ∧ blk b [uV m] 49 h) (uV (al + m)) := by
  refine Ctr.intro Try.func141 rfl rfl (by decide +kernel) fun F hpre => ?_
  have hpre : blk a [uV al] 49 F.heap ∧ blk b [uV m] 49 F.heap := hpre
  obtain ⟨q0, q1⟩ := hpre
  repeat' (first | (refine XL_id ?_; first | refine XL_nil ?_ | (refine XG_load ?_; refine XL_loadF tt_ok rfl (by assumption) rfl rfl rfl rfl ?_) | (refine XL_op tt_ok rfl rfl ?_; try (refine XL_int (wrap_u64 (by omega) (by omega)) ?_))) | (refine X_id ?_; first | refine X_seq ?_ | (refine X_regionN (by repeat' (exact .nil)) ?_) | refine X_ret ?_) | (refine Y_id ?_; refine Y_then ?_))
  all_goals first
    | exact Y_fn1 rfl rfl rfl
    | skip
  
theorem clo6_spec (m al : Int) (s : Sh) (a b c : Nat) (hb : (0 ≤ m ∧ m ≤ 65536) ∧ (0 ≤ al ∧ al ≤ 1006632960) ∧ (1 ≤ s.no ∧ s.no ≤ 4096) ∧ 0 ≤ 16 * s.no * m ∧ 16 * s.no * m ≤ 4294967296) : FnC Try.prog 142 [ptr a, ptr b, ptr c] (fun h => blk a [uV m] 49 h ∧ blk b (shL s) 122 h ∧ blk c [uV al] 49 h) (uV (m + 16 * s.no * m + al)) := by
  refine Ctr.intro Try.func142 rfl rfl (by decide +kernel) fun F hpre => ?_
  have hpre : blk a [uV m] 49 F.heap ∧ blk b (shL s) 122 F.heap ∧ blk c [uV al] 49 F.heap := hpre
  obtain ⟨q0, q1, q2⟩ := hpre
  repeat' (first | (refine XL_id ?_; first | refine XL_nil ?_ | (refine XG_load ?_; refine XL_loadF tt_ok rfl (by assumption) rfl rfl rfl rfl ?_) | (refine XL_op tt_ok rfl rfl ?_; try (refine XL_int (wrap_u64 (by omega) (by omega)) ?_))) | (refine X_id ?_; first | refine X_seq ?_ | (refine X_regionN (by repeat' (exact .nil)) ?_) | refine X_ret ?_) | (refine Y_id ?_; refine Y_then ?_))
  all_goals first
    | exact Y_fn1 rfl rfl rfl
    | skip
  
theorem clo7_spec (x : Cs) (a b : Nat) (hb : CostP x) : FnC Try.prog 143 [ptr a, ptr b] (fun h => blk a (csL x) 61 h ∧ blk b [uV x.ms] 49 h) (uV (64 * (x.st + x.ms) + x.ms)) := by
  have hc : CostP x := hb
  obtain ⟨c1, c2, c3, c4, c5, c6, c7⟩ := hc
  refine Ctr.intro Try.func143 rfl rfl (by decide +kernel) fun F hpre => ?_
  have hpre : blk a (csL x) 61 F.heap ∧ blk b [uV x.ms] 49 F.heap := hpre
  obtain ⟨q0, q1⟩ := hpre
  repeat' (first | (refine XL_id ?_; first | refine XL_nil ?_ | (refine XG_load ?_; refine XL_loadF tt_ok rfl (by assumption) rfl rfl rfl rfl ?_) | (refine XL_op tt_ok rfl rfl ?_; try (refine XL_int (wrap_u64 (by omega) (by omega)) ?_))) | (refine X_id ?_; first | refine X_seq ?_ | (refine X_regionN (by repeat' (exact .nil)) ?_) | refine X_ret ?_) | (refine Y_id ?_; refine Y_then ?_))
  all_goals first
    | exact Y_fn1 rfl rfl rfl
    | skip
  
theorem clo9_spec (fr : Int) (x : Cs) (a b c : Nat) (hb : CostP x ∧ 0 ≤ fr ∧ fr ≤ 537001984) : FnC Try.prog 145 [ptr a, ptr b, ptr c] (fun h => blk a [uV x.ms] 49 h ∧ blk b (csL x) 61 h ∧ blk c [uV fr] 49 h) (uV (26 * x.ms + x.fa + fr + x.di)) := by
  have hc : CostP x := hb.1
  obtain ⟨c1, c2, c3, c4, c5, c6, c7⟩ := hc
  have hb2 := hb.2
  refine Ctr.intro Try.func145 rfl rfl (by decide +kernel) fun F hpre => ?_
  have hpre : blk a [uV x.ms] 49 F.heap ∧ blk b (csL x) 61 F.heap ∧ blk c [uV fr] 49 F.heap := hpre
  obtain ⟨q0, q1, q2⟩ := hpre
  repeat' (first | (refine XL_id ?_; first | refine XL_nil ?_ | (refine XG_load ?_; refine XL_loadF tt_ok rfl (by assumption) rfl rfl rfl rfl ?_) | (refine XL_op tt_ok rfl rfl ?_; try (refine XL_int (wrap_u64 (by omega) (by omega)) ?_))) | (refine X_id ?_; first | refine X_seq ?_ | (refine X_regionN (by repeat' (exact .nil)) ?_) | refine X_ret ?_) | (refine Y_id ?_; refine Y_then ?_))
  all_goals first
    | exact Y_fn1 rfl rfl rfl
    | skip
  
theorem clo10_spec (fr : Int) (x : Cs) (a b c : Nat) (hb : CostP x ∧ 0 ≤ fr ∧ fr ≤ 537001984) : FnC Try.prog 146 [ptr a, ptr b, ptr c] (fun h => blk a [uV x.ms] 49 h ∧ blk b (csL x) 61 h ∧ blk c [uV fr] 49 h) (uV (64 * x.ms + 2 * x.fa + 2 * fr + x.di)) := by
  have hc : CostP x := hb.1
  obtain ⟨c1, c2, c3, c4, c5, c6, c7⟩ := hc
  have hb2 := hb.2
  refine Ctr.intro Try.func146 rfl rfl (by decide +kernel) fun F hpre => ?_
  have hpre : blk a [uV x.ms] 49 F.heap ∧ blk b (csL x) 61 F.heap ∧ blk c [uV fr] 49 F.heap := hpre
  obtain ⟨q0, q1, q2⟩ := hpre
  repeat' (first | (refine XL_id ?_; first | refine XL_nil ?_ | (refine XG_load ?_; refine XL_loadF tt_ok rfl (by assumption) rfl rfl rfl rfl ?_) | (refine XL_op tt_ok rfl rfl ?_; try (refine XL_int (wrap_u64 (by omega) (by omega)) ?_))) | (refine X_id ?_; first | refine X_seq ?_ | (refine X_regionN (by repeat' (exact .nil)) ?_) | refine X_ret ?_) | (refine Y_id ?_; refine Y_then ?_))
  all_goals first
    | exact Y_fn1 rfl rfl rfl
    | skip
  
theorem clo3_spec : FnC Try.prog 139 [] (fun _ => True) (uV 0) := by
  refine Ctr.intro Try.func139 rfl rfl (by decide +kernel) fun F hpre => ?_
  repeat' (first | (refine XL_id ?_; first | refine XL_nil ?_ | (refine XL_op tt_ok rfl rfl ?_)) | (refine X_id ?_; first | refine X_seq ?_ | (refine X_regionN (by repeat' (exact .nil)) ?_) | refine X_ret ?_) | (refine Y_id ?_; refine Y_then ?_))
  all_goals exact Y_fn1 rfl rfl rfl
theorem clo8_spec (m pg : Int) (a b c d : Nat) (h1 : 0 ≤ m ∧ m ≤ 65536) (h2 : 0 ≤ pg ∧ pg ≤ 196608) : FnC Try.prog 144 [ptr c, ptr d] (fun h => blk a [uV m] 49 h ∧ blk b [uV pg] 49 h ∧ blk c [.func (.func 137) #[] #[ptr a]] 149 h ∧ blk d [.func (.func 138) #[] #[ptr b]] 149 h) (uV (mx (113 * m) (64 * pg))) := by
  have hm := clo1_spec m a h1
  have hp := clo2_spec pg b h2
  refine Ctr.intro Try.func144 rfl rfl (by decide +kernel) fun F hpre => ?_
  obtain ⟨q0, q1, q2, q3⟩ := hpre
  repeat' (first | (refine XL_id ?_; first | refine XL_nil ?_ | (refine XG_call ?_; first | refine XL_fnV hm rfl rfl rfl rfl (fun g hg hL => blk_le (blk_le q0 hFG) hg) ?_ | refine XL_fnV hp rfl rfl rfl rfl (fun g hg hL => blk_le (blk_le q1 hFG) hg) ?_) | (refine XL_op tt_ok rfl rfl ?_)) | (refine XD_id ?_; first | (refine XD_thaw thaw ?_; refine XD_nil ?_) | (refine XD_id ?_; (first | (refine XD_uL rfl ?_; refine XD_s rfl rfl rfl (XV_load tt_ok rfl (blk_le (by assumption) hFG) rfl rfl rfl) rfl ?_) | (refine XD_u rfl rfl ?_; refine XD_s rfl rfl rfl (XV_op tt_ok rfl) rfl ?_))) | refine XD_m rfl rfl ?_) | (refine X_id ?_; first | (refine X_drawS (id := 1) [0, 2, 1, 3, 4, 5] (fun | 1 => .m | 3 => .m | _ => .s) 8 (by repeat' (exact Split.nil)) mixed (by decide +kernel) ?_; intro G hFG hM thaw; show XD _ _ _ _ _ _ [0, 2, 1, 3, 4, 5] _ _ _) | refine X_seq ?_ | (refine X_regionN (by repeat' (exact .nil)) ?_) | refine X_ret ?_) | (refine Y_id ?_; first | refine Y_then ?_ | refine Y_m ?_))
  all_goals first
    | exact Y_fn1 rfl rfl rfl
    | skip
  
end Go.Proofs.Ytalkcemelegohaa.Pl
set_option linter.unusedVariables false
set_option maxRecDepth 100000
namespace Go.Proofs.Ytalkcemelegohaa.Pl
open Go.RowKit Go.Cof Gx

set_option maxHeartbeats 4000000 in
theorem asked_spec (x : Cs) (s : Sh) (hx : x.In) (hc : CostP x) (hs : ShP s) : FnC Try.prog 131 [csV x, shV s] (fun _ => True) (iV 0) := by
  have hck := ccheck_spec x hx
  rw [costE_ok hc] at hck
  obtain ⟨im, us, li, no⟩ := s
  obtain ⟨h1, h2, h3, h4⟩ := hs
  dsimp only at h1 h2 h3 h4
  show FnC Try.prog 131 [csV x, .agg #[iV im, iV us, iV li, iV no]] (fun _ => True) (iV 0)
  refine Ctr.intro Try.func131 rfl rfl (by decide +kernel) fun F hpre => ?_
  rcases h1 with rfl | rfl | rfl | rfl
  all_goals (
    repeat' (first | (refine XL_id ?_; first | refine XL_nil ?_ | refine XL_guard_yes rfl rfl rfl ?_ | (refine XG_load ?_; first | refine XL_loadW tt_ok 1 rfl rfl rfl rfl rfl rfl ?_ | refine XL_load tt_ok 0 rfl rfl rfl rfl rfl rfl ?_) | (refine XG_box ?_; (refine XL_box rfl (fun _ => rfl) (fun _ => ?_); refine XL_nB (by repeat' (first | exact .nil | apply NL.cons)) ?_)) | (refine XG_call ?_; first | refine XL_fn hck rfl rfl (fun _ _ _ => trivial) ?_ | (refine XL_fn (cwithin_spec _ _ _) rfl rfl (fun _ _ _ => trivial) ?_; refine XL_dec_t (by omega) ?_)) | (refine XL_op tt_ok rfl rfl ?_; try (first | (refine XL_int (Eq.trans (wrap_i64 (by omega) (by omega)) (by simp only [Int.reduceAdd, Int.reduceSub, Int.reduceMul, Int.reduceNeg]; rfl)) ?_) | refine XL_dec_t (by omega) ?_ | refine XL_dec_f (by omega) ?_))) | (refine XD_id ?_; first | (refine XD_thaw thaw ?_; refine XD_nil ?_) | refine XD_no rfl rfl rfl rfl rfl rfl ?_ | (refine XD_id ?_; (first | (refine XD_gL rfl ?_; refine XD_sy rfl rfl rfl rfl rfl (XV_load tt_ok rfl (blk_at 0 rfl hM) rfl rfl rfl) rfl ?_) | (refine XD_u rfl rfl ?_; refine XD_s rfl rfl rfl (XV_op tt_ok rfl) rfl ?_) | (refine XD_g rfl rfl ?_; refine XD_sy rfl rfl rfl rfl rfl (XV_op tt_ok rfl) rfl ?_)); try (first | refine XD_dec_t (by decide +kernel) ?_ | refine XD_dec_f (by decide +kernel) ?_))) | (refine X_id ?_; first | refine X_unroll 4 ?_ | (refine X_drawS (id := 8) [0, 1, 2, 3, 4, 5, 6, 7, 8] (fun _ => .s) 8 (by repeat' (first | exact Split.nil | apply Split.blk)) mixed (by decide +kernel) ?_; intro G hFG hM thaw; show XD _ _ _ _ _ _ [0, 1, 2, 3, 4, 5, 6, 7, 8] _ _ _) | refine X_seq ?_ | (refine X_regionN (by repeat' (first | exact .nil | apply NL.cons)) ?_) | refine X_skip ?_ | refine X_ret ?_ | refine X_exit ?_ | refine X_block ?_ | refine X_cond_t rfl ?_ | refine X_cond_f rfl ?_) | (refine Y_id ?_; first | refine Y_unroll ?_ | refine Y_then ?_ | refine Y_then_exit ?_ | refine Y_block_hit ?_ | refine Y_block_normal ?_)))
  all_goals first
    | exact Y_fn1 rfl rfl rfl
    | (exfalso; omega)
    | skip
  
structure Cap where
  c : Nat
  s : Nat
  m : Nat
  p : Nat
  a : Nat
  f : Nat
  g : Nat
  h : Nat
abbrev fnV (k : Nat) (l : List Value) : Value := .func (.func k) #[] l.toArray
abbrev bsV (y : Cap) : Value := .agg #[.func (.func 139) #[] #[], .func (.func 140) #[] #[ptr y.m], .func (.func 141) #[] #[ptr y.a, ptr y.m], .func (.func 142) #[] #[ptr y.m, ptr y.s, ptr y.a], .func (.func 137) #[] #[ptr y.m], .func (.func 138) #[] #[ptr y.p],
  .func (.func 143) #[] #[ptr y.c, ptr y.m], .func (.func 144) #[] #[ptr y.g, ptr y.h], .func (.func 145) #[] #[ptr y.m, ptr y.c, ptr y.f], .func (.func 146) #[] #[ptr y.m, ptr y.c, ptr y.f], .func (.func 139) #[] #[]]
abbrev bsL (x : Cs) (s : Sh) (pg al fr : Int) (y : Cap) : List HProp := [blk y.h [.func (.func 138) #[] #[ptr y.p]] 149, blk y.g [.func (.func 137) #[] #[ptr y.m]] 149, blk y.f [uV fr] 49, blk y.a [uV al] 49, blk y.p [uV pg] 49, blk y.m [uV x.ms] 49, blk y.s (shL s) 122, blk y.c (csL x) 61]
set_option maxHeartbeats 4000000 in
theorem bounds_spec (x : Cs) (s : Sh) (pg al fr : Int) (hn : Nums x.ms x.st x.fa x.di s.im s.no s.li s.us pg al fr) (h1 : 2 ≤ s.us ∧ s.us ≤ 4096) (h2 : 1 ≤ s.li ∧ s.li ≤ 5120) : Ctr Try.prog 132 [csV x, shV s] (fun _ => True) [] (fun v L => ∃ y : Cap, v = bsV y ∧ L = bsL x s pg al fr y) := by
  obtain ⟨n1, n2, n3, n4, n5, n6, n7, n8, n9, n10, n11⟩ := hn
  have hr1 : x.st + 2 * x.ms = pg := n5.symm
  have hr2 : s.li * pg = al := n6.symm
  have hr3 : (2 * s.us + 1) * x.st + x.di = fr := n8.symm
  refine Ctr.intro Try.func132 rfl rfl (by decide +kernel) fun F hpre => ?_
  repeat' (first | (refine XL_id ?_; first | refine XL_nil ?_ | (refine XG_load ?_; first | refine XL_load tt_ok 0 rfl rfl rfl rfl rfl rfl ?_ | refine XL_load tt_ok 1 rfl rfl rfl rfl rfl rfl ?_ | refine XL_load tt_ok 2 rfl rfl rfl rfl rfl rfl ?_ | refine XL_load tt_ok 3 rfl rfl rfl rfl rfl rfl ?_ | refine XL_load tt_ok 4 rfl rfl rfl rfl rfl rfl ?_ | refine XL_load tt_ok 5 rfl rfl rfl rfl rfl rfl ?_) | (refine XG_box ?_; (refine XL_box rfl (fun _ => rfl) (fun _ => ?_); refine XL_nB (by repeat' (first | exact .nil | apply NL.cons)) ?_)) | (refine XG_build ?_; (refine XL_buildA tt_ok rfl rfl rfl rfl rfl rfl rfl ?_; refine XL_aggN (by repeat' (first | exact .nil | apply NL.cons)) ?_)) | (refine XG_alloc ?_; (refine XL_alloc tt_ok rfl rfl (fun _ => rfl) (fun b => ?_); refine XL_nB (by repeat' (first | exact .nil | apply NL.cons)) ?_)) | (refine XG_store ?_; first | (refine XL_storeW tt_ok 6 rfl rfl rfl rfl rfl rfl rfl ?_; refine XL_nK 6 rfl (by repeat' (first | exact .nil | apply NL.cons)) ?_) | (refine XL_store tt_ok 0 rfl rfl rfl rfl rfl rfl rfl rfl ?_; refine XL_nK 0 rfl (by repeat' (first | exact .nil | apply NL.cons)) ?_)) | (refine XL_op tt_ok rfl rfl ?_; refine XL_int (Eq.trans (wrap_u64 (by omega) (by omega)) hr1) ?_) | (refine XL_op tt_ok rfl rfl ?_; refine XL_int (Eq.trans (wrap_u64 (by omega) (by omega)) hr2) ?_) | (refine XL_op tt_ok rfl rfl ?_; refine XL_int (Eq.trans (wrap_u64 (by omega) (by omega)) hr3) ?_) | (refine XL_op tt_ok rfl rfl ?_; try (refine XL_int (wrap_u64 (by omega) (by omega)) ?_))) | (refine X_id ?_; first | refine X_seq ?_ | (refine X_regionN (by repeat' (first | exact .nil | apply NL.cons)) ?_) | refine X_ret ?_) | (refine Y_id ?_; refine Y_then ?_))
  all_goals first
    | exact Y_res1 rfl (.cell tt_ok 6 rfl rfl rfl rfl rfl) (fun h hs => stars_only [0, 0, 0, 0, 0, 0, 1, 1] rfl h hs) ⟨⟨_, _, _, _, _, _, _, _⟩, rfl, rfl⟩
    | skip
  
end Go.Proofs.Ytalkcemelegohaa.Pl
set_option linter.unusedVariables false
set_option maxRecDepth 100000
namespace Go.Proofs.Ytalkcemelegohaa.Pl
open Go.RowKit Go.Cof Gx

theorem mx_le {x y K : Int} (h1 : x ≤ K) (h2 : y ≤ K) : mx x y ≤ K := by unfold mx; split <;> assumption
theorem mx_ge {x y : Int} (h1 : 0 ≤ x) : 0 ≤ mx x y := by unfold mx; split <;> omega
theorem mx_zero {x : Int} (h : 0 ≤ x) : mx x 0 = x := if_neg (by omega)
set_option maxHeartbeats 4000000 in
theorem most_walk (x : Cs) (s : Sh) (hx : x.In) (hc : CostP x) (hs : ShP s) (pg al fr : Int) (hn : Nums x.ms x.st x.fa x.di s.im s.no s.li s.us pg al fr) :
    FnC Try.prog 125 [csV x, shV s] (fun _ => True) (.tuple #[uV (s.im * x.ms + mxL (bhL x.ms x.st x.fa x.di s.no pg al fr)), iV 0]) := by
  have hb := bounds_spec x s pg al fr hn hs.us hs.li
  have has := asked_spec x s hx hc hs
  have h4 := hs.im
  have h8 := hs.no
  obtain ⟨n1, n2, n3, n4, n5, n6, n7, n8, n9, n10, n11⟩ := hn
  have hfr : 0 ≤ fr ∧ fr ≤ 537001984 := by omega
  have hpg : 0 ≤ pg ∧ pg ≤ 196608 := by omega
  have hm : 0 ≤ x.ms ∧ x.ms ≤ 65536 := by omega
  have b7 : mx (113 * x.ms) (64 * pg) ≤ 6000000000 := mx_le (by omega) (by omega)
  obtain ⟨M1, e1⟩ : ∃ v, mx 0 (17 * x.ms) = v := ⟨_, rfl⟩
  have g1 : 0 ≤ M1 := by rw [← e1]; exact mx_ge (Int.le_refl 0)
  have l1 : M1 ≤ 6000000000 := by rw [← e1]; exact mx_le (by decide) (by omega)
  obtain ⟨M2, e2⟩ : ∃ v, mx M1 (al + x.ms) = v := ⟨_, rfl⟩
  have g2 : 0 ≤ M2 := by rw [← e2]; exact mx_ge g1
  have l2 : M2 ≤ 6000000000 := by rw [← e2]; exact mx_le l1 (by omega)
  obtain ⟨M3, e3⟩ : ∃ v, mx M2 (x.ms + 16 * s.no * x.ms + al) = v := ⟨_, rfl⟩
  have g3 : 0 ≤ M3 := by rw [← e3]; exact mx_ge g2
  have l3 : M3 ≤ 6000000000 := by rw [← e3]; exact mx_le l2 (by omega)
  obtain ⟨M4, e4⟩ : ∃ v, mx M3 (113 * x.ms) = v := ⟨_, rfl⟩
  have g4 : 0 ≤ M4 := by rw [← e4]; exact mx_ge g3
  have l4 : M4 ≤ 6000000000 := by rw [← e4]; exact mx_le l3 (by omega)
  obtain ⟨M5, e5⟩ : ∃ v, mx M4 (64 * pg) = v := ⟨_, rfl⟩
  have g5 : 0 ≤ M5 := by rw [← e5]; exact mx_ge g4
  have l5 : M5 ≤ 6000000000 := by rw [← e5]; exact mx_le l4 (by omega)
  obtain ⟨M6, e6⟩ : ∃ v, mx M5 (64 * (x.st + x.ms) + x.ms) = v := ⟨_, rfl⟩
  have g6 : 0 ≤ M6 := by rw [← e6]; exact mx_ge g5
  have l6 : M6 ≤ 6000000000 := by rw [← e6]; exact mx_le l5 (by omega)
  obtain ⟨M7, e7⟩ : ∃ v, mx M6 (mx (113 * x.ms) (64 * pg)) = v := ⟨_, rfl⟩
  have g7 : 0 ≤ M7 := by rw [← e7]; exact mx_ge g6
  have l7 : M7 ≤ 6000000000 := by rw [← e7]; exact mx_le l6 b7
  obtain ⟨M8, e8⟩ : ∃ v, mx M7 (26 * x.ms + x.fa + fr + x.di) = v := ⟨_, rfl⟩
  have g8 : 0 ≤ M8 := by rw [← e8]; exact mx_ge g7
  have l8 : M8 ≤ 6000000000 := by rw [← e8]; exact mx_le l7 (by omega)
  obtain ⟨M9, e9⟩ : ∃ v, mx M8 (64 * x.ms + 2 * x.fa + 2 * fr + x.di) = v := ⟨_, rfl⟩
  have g9 : 0 ≤ M9 := by rw [← e9]; exact mx_ge g8
  have l9 : M9 ≤ 6000000000 := by rw [← e9]; exact mx_le l8 (by omega)
  obtain ⟨M10, e10⟩ : ∃ v, mx M9 (0) = v := ⟨_, rfl⟩
  have g10 : 0 ≤ M10 := by rw [← e10]; exact mx_ge g9
  have l10 : M10 ≤ 6000000000 := by rw [← e10]; exact mx_le l9 (by omega)
  have hMx : mxL (bhL x.ms x.st x.fa x.di s.no pg al fr) = M9 := by
    show mx (mx (mx (mx (mx (mx (mx (mx (mx 0 (17 * x.ms)) (al + x.ms)) (x.ms + 16 * s.no * x.ms + al)) (113 * x.ms)) (64 * pg)) (64 * (x.st + x.ms) + x.ms)) (mx (113 * x.ms) (64 * pg))) (26 * x.ms + x.fa + fr + x.di)) (64 * x.ms + 2 * x.fa + 2 * fr + x.di) = M9
    rw [e1, e2, e3, e4, e5, e6, e7, e8, e9]
  have hM : M10 = M9 := by rw [← e10]; exact mx_zero g9
  rw [hMx, ← hM]
  clear hMx hM
  refine Ctr.intro Try.func125 rfl rfl (by decide +kernel) fun F hpre => ?_
  repeat' (first | (refine XL_id ?_; first | refine XL_nil ?_ | refine XL_arrIx tt_ok rfl rfl rfl rfl rfl (by decide) (by decide) rfl rfl ?_ | (refine XG_load ?_; first | refine XL_loadW tt_ok 0 rfl rfl rfl rfl rfl rfl ?_ | refine XL_loadW tt_ok 1 rfl rfl rfl rfl rfl rfl ?_ | refine XL_load tt_ok 8 rfl rfl rfl rfl rfl rfl ?_ | refine XL_load tt_ok 9 rfl rfl rfl rfl rfl rfl ?_) | (refine XG_box ?_; (refine XL_box rfl (fun _ => rfl) (fun _ => ?_); refine XL_nB (by repeat' (first | exact .nil | apply NL.cons)) ?_)) | (refine XG_call ?_; first | (refine XL_op tt_ok rfl rfl ?_; refine XL_int e1 ?_) | (refine XL_op tt_ok rfl rfl ?_; refine XL_int e2 ?_) | (refine XL_op tt_ok rfl rfl ?_; refine XL_int e3 ?_) | (refine XL_op tt_ok rfl rfl ?_; refine XL_int e4 ?_) | (refine XL_op tt_ok rfl rfl ?_; refine XL_int e5 ?_) | (refine XL_op tt_ok rfl rfl ?_; refine XL_int e6 ?_) | (refine XL_op tt_ok rfl rfl ?_; refine XL_int e7 ?_) | (refine XL_op tt_ok rfl rfl ?_; refine XL_int e8 ?_) | (refine XL_op tt_ok rfl rfl ?_; refine XL_int e9 ?_) | (refine XL_op tt_ok rfl rfl ?_; refine XL_int e10 ?_) | (refine XL_op tt_ok rfl rfl ?_) | refine XL_fnV clo3_spec rfl rfl rfl rfl (fun _ _ _ => trivial) ?_ | refine XL_fnV (clo4_spec x.ms _ hm) rfl rfl rfl rfl (fun g hg hL => blk_at 5 rfl hL) ?_ | refine XL_fnV (clo5_spec al x.ms _ _ ⟨hm, n7⟩) rfl rfl rfl rfl (fun g hg hL => ⟨blk_at 3 rfl hL, blk_at 5 rfl hL⟩) ?_ | refine XL_fnV (clo6_spec x.ms al s _ _ _ ⟨hm, n7, h8, n10⟩) rfl rfl rfl rfl (fun g hg hL => ⟨blk_at 5 rfl hL, blk_at 6 rfl hL, blk_at 3 rfl hL⟩) ?_ | refine XL_fnV (clo1_spec x.ms _ hm) rfl rfl rfl rfl (fun g hg hL => blk_at 5 rfl hL) ?_ | refine XL_fnV (clo2_spec pg _ hpg) rfl rfl rfl rfl (fun g hg hL => blk_at 4 rfl hL) ?_ | refine XL_fnV (clo7_spec x _ _ hc) rfl rfl rfl rfl (fun g hg hL => ⟨blk_at 7 rfl hL, blk_at 5 rfl hL⟩) ?_ | refine XL_fnV (clo8_spec x.ms pg _ _ _ _ hm hpg) rfl rfl rfl rfl (fun g hg hL => ⟨blk_at 5 rfl hL, blk_at 4 rfl hL, blk_at 1 rfl hL, blk_at 0 rfl hL⟩) ?_ | refine XL_fnV (clo9_spec fr x _ _ _ ⟨hc, hfr⟩) rfl rfl rfl rfl (fun g hg hL => ⟨blk_at 5 rfl hL, blk_at 7 rfl hL, blk_at 2 rfl hL⟩) ?_ | refine XL_fnV (clo10_spec fr x _ _ _ ⟨hc, hfr⟩) rfl rfl rfl rfl (fun g hg hL => ⟨blk_at 5 rfl hL, blk_at 7 rfl hL, blk_at 2 rfl hL⟩) ?_ | refine XL_fn has rfl rfl (fun _ _ _ => trivial) ?_ | (refine XL_callK [] hb rfl rfl (fun _ => rfl) (fun _ _ _ => trivial) (fun u L hv => ?_); obtain ⟨y, rfl, rfl⟩ := hv)) | (refine XL_op tt_ok rfl rfl ?_; try (first | (refine XL_int (Eq.trans (wrap_i64 (by omega) (by omega)) (by simp only [Int.reduceAdd, Int.reduceSub, Int.reduceMul, Int.reduceNeg]; rfl)) ?_) | refine XL_int (wrap_u64 (by omega) (by omega)) ?_ | refine XL_dec_t (by omega) ?_ | refine XL_dec_f (by omega) ?_))) | (refine X_id ?_; first | (refine X_regionEN (id := 0) [0, 1] rfl (by repeat' (exact .nil)) ?_) | (refine X_regionEN (id := 1) [2, 3] rfl (by repeat' (first | exact .nil | apply NL.cons)) ?_) | (refine X_regionEN (id := 2) [2, 3, 6] rfl (by repeat' (first | exact .nil | apply NL.cons)) ?_) | (refine X_regionEN (id := 4) [2, 3] rfl (by repeat' (first | exact .nil | apply NL.cons)) ?_) | (refine X_regionEN (id := 5) [2, 3, 7] rfl (by repeat' (first | exact .nil | apply NL.cons)) ?_) | (refine X_regionEN (id := 6) [2, 3, 7, 18, 19] rfl (by repeat' (first | exact .nil | apply NL.cons)) ?_) | (refine X_regionEN (id := 7) [2, 3, 7, 18, 19] rfl (by repeat' (first | exact .nil | apply NL.cons)) ?_) | (refine X_regionEN (id := 8) [2, 3, 7, 9, 18, 19] rfl (by repeat' (first | exact .nil | apply NL.cons)) ?_) | (refine X_regionEN (id := 9) [2, 3, 7, 18, 19] rfl (by repeat' (first | exact .nil | apply NL.cons)) ?_) | (refine X_regionEN (id := 10) [2, 3, 7] rfl (by repeat' (first | exact .nil | apply NL.cons)) ?_) | refine X_unroll 11 ?_ | refine X_seq ?_ | refine X_skip ?_ | refine X_ret ?_ | refine X_exit ?_ | refine X_block ?_ | refine X_cond_t rfl ?_ | refine X_cond_f rfl ?_) | (refine Y_id ?_; first | refine Y_unroll ?_ | refine Y_then ?_ | refine Y_then_exit ?_ | refine Y_block_hit ?_ | refine Y_block_normal ?_))
  all_goals first
    | exact Y_fn2 rfl rfl rfl rfl
    | (exfalso; omega)
    | skip
  
theorem most_spec (x : Cs) (s : Sh) (hx : x.In) (hc : CostP x) (hs : ShP s) : FnC Try.prog 125 [csV x, shV s] (fun _ => True) (.tuple #[uV (mostF x s), iV 0]) :=
  most_walk x s hx hc hs _ _ _ (nums hc hs)
end Go.Proofs.Ytalkcemelegohaa.Pl
set_option linter.unusedVariables false
set_option maxRecDepth 100000
namespace Go.Proofs.Ytalkcemelegohaa.Pl
open Go.RowKit Go.Cof Gx

/-- The i-th colour of part p is well. -/
def Good (d : Cd) (p i : Nat) : Prop := 0 ≤ Cof.get (Cof.get d.ps p).xs i ∧ Cof.get (Cof.get d.ps p).xs i < d.co ∧ (0 < i → Cof.get (Cof.get d.ps p).xs ((i - 1 : Nat) : Int) < Cof.get (Cof.get d.ps p).xs i) ∧ ∀ k, k < p → Cof.get (Cof.get d.ps p).xs i ∉ (Cof.get d.ps k).xs
instance (d : Cd) (p i : Nat) : Decidable (Good d p i) := inferInstanceAs (Decidable (_ ∧ _ ∧ _ ∧ ∀ k, k < p → _))
def ColP (d : Cd) (p : Nat) : Prop := 0 < (Cof.get d.ps p).xs.length ∧ ∀ i, i < (Cof.get d.ps p).xs.length → Good d p i
instance (d : Cd) (p : Nat) : Decidable (ColP d p) := inferInstanceAs (Decidable (_ ∧ ∀ i, i < _ → _))
theorem ColP.ge {d : Cd} {p : Nat} (h : ColP d p) : ∀ i, i < (Cof.get d.ps p).xs.length → (i : Int) ≤ Cof.get (Cof.get d.ps p).xs i
  | 0, hi => (h.2 0 hi).1
  | i + 1, hi => by
    have h1 := ColP.ge h i (by omega)
    have h2 := (h.2 (i + 1) hi).2.2.1 (by omega)
    rw [show i + 1 - 1 = i from rfl] at h2
    omega
theorem ColP.len {d : Cd} {p : Nat} (h : ColP d p) : ((Cof.get d.ps p).xs.length : Int) ≤ d.co := by
  have h0 := h.1
  have h1 := h.ge ((Cof.get d.ps p).xs.length - 1) (by omega)
  have h2 := (h.2 ((Cof.get d.ps p).xs.length - 1) (by omega)).2.1
  omega
/-- Slots of the parts below n that may count. -/
def slF (d : Cd) : Nat → Int
  | 0 => 0
  | n + 1 => slF d n + if 1 ≤ (Cof.get d.ps n).k ∧ (Cof.get d.ps n).k ≤ 1024 then (Cof.get d.ps n).k else 0
theorem slF_rng (d : Cd) : ∀ n : Nat, 0 ≤ slF d n ∧ slF d n ≤ 1024 * n
  | 0 => ⟨Int.le_refl _, Int.le_refl _⟩
  | n + 1 => by
    have := slF_rng d n
    unfold slF
    split <;> omega
def imF (o : Int) : Int := if o = 0 then 1 else if o = 1 then 2 else if o = 2 then 4 else 8
theorem imF_rng (o : Int) : imF o = 1 ∨ imF o = 2 ∨ imF o = 4 ∨ imF o = 8 := by unfold imF; split; simp; split; simp; split <;> simp
theorem shl_im {o : Int} (h : 0 ≤ o ∧ o ≤ 3) : IntKind.i64.wrap (1 * 2 ^ min o.toNat IntKind.i64.bits) = imF o := by
  rcases (by omega : o = 0 ∨ o = 1 ∨ o = 2 ∨ o = 3) with rfl | rfl | rfl | rfl <;> decide
abbrev eaF (d : Cd) : Int := d.fr.tdiv d.co
theorem eaF_rng {d : Cd} (h : MachP d) : 0 ≤ eaF d ∧ eaF d ≤ 4096 := by
  have h1 := h.co
  have h2 := h.fr
  refine ⟨Int.tdiv_nonneg (by omega) (by omega), ?_⟩
  have h3 : eaF d * d.co ≤ d.fr := by
    have := Int.mul_tdiv_add_tmod d.fr d.co
    rw [h.div, Int.add_zero, Int.mul_comm] at this
    exact Int.le_of_eq this
  have h4 : 0 ≤ eaF d := Int.tdiv_nonneg (by omega) (by omega)
  have h5 : eaF d * 1 ≤ eaF d * d.co := Int.mul_le_mul_of_nonneg_left h1.1 h4
  omega
abbrev toF (d : Cd) (p : Nat) : Int := (Cof.get d.ps p).xs.length * eaF d
theorem toF_rng {d : Cd} {p : Nat} (h : MachP d) (hc : ColP d p) : 0 ≤ toF d p ∧ toF d p ≤ 65536 := by
  have h1 := eaF_rng h
  have h2 := hc.len
  have h3 := h.co
  exact ⟨Int.mul_nonneg (by omega) h1.1, Int.le_trans (Int.mul_le_mul (show ((Cof.get d.ps p).xs.length : Int) ≤ 16 by omega) h1.2 h1.1 (by decide)) (by decide)⟩
structure Nine (x : Pd) : Prop where
  o : 0 ≤ x.o ∧ x.o ≤ 3
  u : 2 ≤ x.u ∧ x.u ≤ 4096
  t : 4 ≤ x.t ∧ x.t ≤ 4096
  s : 1 ≤ x.s ∧ x.s ≤ 4096
  r : 1 ≤ x.r ∧ x.r ≤ 4096
  d : 1 ≤ x.d ∧ x.d ≤ 4096
  k : 1 ≤ x.k ∧ x.k ≤ 1024
theorem Nine.iff (x : Pd) : Nine x ↔ (0 ≤ x.o ∧ x.o ≤ 3) ∧ (2 ≤ x.u ∧ x.u ≤ 4096) ∧ (4 ≤ x.t ∧ x.t ≤ 4096) ∧ (1 ≤ x.s ∧ x.s ≤ 4096) ∧ (1 ≤ x.r ∧ x.r ≤ 4096) ∧ (1 ≤ x.d ∧ x.d ≤ 4096) ∧ (1 ≤ x.k ∧ x.k ≤ 1024) :=
  ⟨fun ⟨a, b, c, e, f, g, h⟩ => ⟨a, b, c, e, f, g, h⟩, fun ⟨a, b, c, e, f, g, h⟩ => ⟨a, b, c, e, f, g, h⟩⟩
instance (x : Pd) : Decidable (Nine x) := decidable_of_iff _ (Nine.iff x).symm
abbrev neF (x : Pd) : Int := imF x.o + x.u + x.t + x.s + x.r + x.d
/-- The quotas of part p are well. -/
def QuoP (d : Cd) (p : Nat) : Prop := Nine (Cof.get d.ps p) ∧ slF d (p + 1) ≤ 1024 ∧ (MachP d → imF (Cof.get d.ps p).o ≤ eaF d ∧ neF (Cof.get d.ps p) ≤ toF d p)
instance (d : Cd) (p : Nat) : Decidable (QuoP d p) := inferInstanceAs (Decidable (_ ∧ _ ∧ (_ → _)))
def partE (d : Cd) (p : Nat) : Int := if ColP d p then if QuoP d p then 0 else 111 else 110
end Go.Proofs.Ytalkcemelegohaa.Pl
set_option linter.unusedVariables false
set_option maxRecDepth 100000
namespace Go.Proofs.Ytalkcemelegohaa.Pl
open Go.RowKit Go.Cof Gx

theorem get_nat {α : Type} [Inhabited α] (l : List α) (i : Nat) : Cof.get l (i : Int) = l.getD i default := rfl
theorem get_dat {h : Hp} {d : Cd} {y : Ly} (r : CfR h d y) {i : Nat} (hi : i < y.pm) : (Cof.get y.ps (i : Int)).d = Cof.get d.ps (i : Int) := by
  have hl := r.ps.1
  rw [get_nat, get_nat, ← r.eq, List.getD_eq_getElem?_getD, List.getD_eq_getElem?_getD, List.getElem?_map, List.getElem?_eq_getElem (by omega)]
  rfl
theorem get_takeN {α : Type} [Inhabited α] (l : List α) {p i : Nat} (hi : i < p) : Cof.get (l.take p) (i : Int) = Cof.get l (i : Int) := by
  rw [get_nat, get_nat, List.getD_eq_getElem?_getD, List.getD_eq_getElem?_getD, List.getElem?_take_of_lt hi]
theorem get_memN {h : Hp} {d : Cd} {y : Ly} (r : CfR h d y) {i : Nat} (hi : i < y.pm) : Cof.get y.ps (i : Int) ∈ y.ps := get_mem' (by omega) (by have := r.ps.1; omega)
theorem cut_hiN {m c p : Nat} {k : IntKind} (h : p ≤ c) : Cut3 m c none (some (.int k (p : Int))) none 0 p c := Cut3.hi (m := m) (c := c) (k := k) (y := (p : Int)) (by omega) (by omega)
theorem Good.mk {d : Cd} {p i : Nat} {v : Int} (hv : Cof.get (Cof.get d.ps p).xs i = v) (h0 : ¬ v < 0) (h1 : ¬ d.co ≤ v) (h2 : 0 < i → Cof.get (Cof.get d.ps p).xs ((i - 1 : Nat) : Int) < v) (h3 : ∀ k, k < p → v ∉ (Cof.get d.ps k).xs) : Good d p i := by
  subst hv
  exact ⟨by omega, by omega, h2, h3⟩
set_option maxHeartbeats 8000000 in
theorem colours_spec (d : Cd) (y : Ly) (hf : y.Fit) (p : Nat) (hp : p < y.pm) : FnC Try.prog 128 [cfV d y, iV p] (fun h => CfR h d y) (.bool (decide (ColP d p))) := by
  refine Ctr.intro Try.func128 rfl rfl (by decide +kernel) fun F hpre => ?_
  have hpre : CfR F.heap d y := hpre
  have r1 := hpre.ps
  have hdat := get_dat hpre hp
  have r2 := hpre.xs _ (get_memN hpre hp)
  have hcap := hf.cap
  have hxf := hf.x _ (get_memN hpre hp)
  have hml := r2.1
  have hml2 : (Cof.get y.ps (p : Int)).m = (Cof.get d.ps (p : Int)).xs.length := by rw [hml, hdat]
  repeat' (first | (refine XL_id ?_; first | refine XL_nil ?_ | (refine XG_box ?_; (refine XL_box rfl (fun _ => rfl) (fun bx => ?_); refine XL_nB (by repeat' (first | exact .nil | apply NL.cons)) ?_)) | (refine XG_load ?_; first | refine XL_load tt_ok 0 rfl rfl rfl rfl rfl rfl ?_ | refine XL_el tt_ok rfl (by assumption) rfl (by omega) (by omega) rfl rfl rfl rfl ?_) | (refine XG_idx ?_; refine XL_idx tt_ok rfl rfl rfl rfl rfl (by assumption) (by omega) (by omega) rfl ?_) | (refine XL_op tt_ok rfl rfl ?_; try (refine XL_dec (fun _ => ?_) (fun _ => ?_)))) | (refine X_id ?_; first | refine X_cutD (c := .block 0 _) [5] (fun (_ : Unit) => []) (fun _ => [blk bx (cfL d y) 65]) (fun _ => ∀ j, j < (Cof.get y.ps (p : Int)).m → Good d p j) rfl (X_block (hold ?_)) (fun _ hj => ?_) | refine X_seq ?_ | (refine X_regionN (by repeat' (first | exact .nil | apply NL.cons)) ?_) | refine X_ret ?_) | (refine Y_id ?_; refine Y_then ?_))
  · intro _
    refine X_loopD [1, 2, 5, 16, 17] (fun (i : Nat) => [(18, .int .i64 i)]) (fun i => [blk bx (cfL d y) 65]) (fun i => i ≤ (Cof.get y.ps (p : Int)).m ∧ ∀ j, j < i → Good d p j) (fun i => (Cof.get y.ps (p : Int)).m - i) 0 rfl ⟨Nat.zero_le _, fun j hj => by omega⟩ (by (repeat' (first | exact trivial | refine And.intro rfl ?_)); done) (fun h hs => hs) ?_
    intro i hi
    obtain ⟨hi, hgd⟩ := hi
    by_cases hlt : i < (Cof.get y.ps (p : Int)).m
    · obtain ⟨v, hv⟩ : ∃ v, Cof.get (Cof.get y.ps (p : Int)).d.xs (i : Int) = v := ⟨_, rfl⟩
      have hv2 : Cof.get (Cof.get d.ps (p : Int)).xs (i : Int) = v := by rw [← hdat]; exact hv
      have hv3 : ∀ z, Cof.get (Cof.get d.ps (p : Int)).xs z = Cof.get (Cof.get y.ps (p : Int)).d.xs z := fun z => by rw [hdat]
      have hi1 : 0 < i → ((i - 1 : Nat) : Int) = (i : Int) - 1 := fun h => by omega
      repeat' (first | (refine XL_id ?_; first | refine XL_nil ?_ | refine XL_guard_yes rfl rfl rfl ?_ | refine XL_guard_no rfl rfl rfl rfl rfl ?_ | refine XL_guard_nou rfl rfl rfl rfl ?_ | (refine XG_slice ?_; refine XL_slice0 tt_ok rfl rfl rfl (cut_hiN (by omega)) rfl rfl rfl rfl ?_) | (refine XG_load ?_; first | refine XL_load tt_ok 0 rfl rfl rfl rfl rfl rfl ?_ | refine XL_el tt_ok rfl (by assumption) rfl (by omega) (by omega) rfl rfl rfl rfl ?_) | (refine XG_idx ?_; refine XL_idx tt_ok rfl rfl rfl rfl rfl (by assumption) (by omega) (by omega) rfl ?_) | (refine XL_op tt_ok rfl rfl ?_; try (first | refine XL_int (wrap_i64 (by omega) (by omega)) ?_ | refine XL_dec_t (by omega) ?_ | refine XL_dec (fun _ => ?_) (fun _ => ?_)))) | (refine X_id ?_; first | refine X_cutQ (c := .block 2 _) [1, 2, 5, 16, 17, 18] (fun (_ : Unit) => []) (fun _ => [blk bx (cfL d y) 65]) (fun _ => Good d p i) rfl (X_block (hold ?_)) (fun _ hg => ?_) | refine X_seq ?_ | (refine X_regionN (by repeat' (first | exact .nil | apply NL.cons)) ?_) | refine X_skip ?_ | refine X_ret ?_ | refine X_block ?_ | refine X_cond_t rfl ?_ | refine X_cond_f rfl ?_) | (refine Y_id ?_; first | refine Y_then ?_ | refine Y_then_ret ?_ | refine Y_block_normal ?_ | refine Y_block_ret ?_))
      all_goals first
        | (exfalso; omega)
        | exact Y_fn1 rfl rfl (bool_f (fun h => by have g := (h.2 i (by omega)).1; rw [hv3] at g; omega))
        | exact Y_fn1 rfl rfl (bool_f (fun h => by have g := (h.2 i (by omega)).2.1; rw [hv3] at g; omega))
        | exact Y_fn1 rfl rfl (bool_f (fun h => by have g := (h.2 i (by omega)).2.2.1 (by omega); rw [hi1 (by omega), hv3, hv3] at g; omega))
        | exact Y_again (i + 1) fun _ _ hf hs => ⟨⟨hlt, fun j hj => by by_cases hj2 : j < i; exact hgd j hj2; obtain rfl : j = i := (by omega); exact hg⟩, by show (Cof.get y.ps (p : Int)).m - (i + 1) < (Cof.get y.ps (p : Int)).m - i; omega, hf.sub (by (repeat' (first | exact trivial | refine And.intro rfl ?_)); done), hs⟩
        | skip
      all_goals (
        intro _
        clear r1
        have r3 := hpre.ps.take p (by omega)
        refine X_loopD [1, 2, 5, 7, 16, 17, 18, 47, 48] (fun (k : Nat) => [(49, .int .i64 k)]) (fun _ => [blk bx (cfL d y) 65]) (fun k => k ≤ p ∧ ∀ j, j < k → v ∉ (Cof.get d.ps (j : Int)).xs) (fun k => p - k) 0 rfl ⟨Nat.zero_le _, fun j hj => by omega⟩ (by (repeat' (first | exact trivial | refine And.intro rfl ?_)); done) (fun h hs => hs) ?_
        intro k hk
        obtain ⟨hk, hnot⟩ := hk
        by_cases hkp : k < p
        · have hkm : k < y.pm := by omega
          have hw : Cof.get (y.ps.take p) (k : Int) = Cof.get y.ps (k : Int) := get_takeN y.ps hkp
          have rk := hpre.xs _ (get_memN hpre hkm)
          rw [← hw] at rk
          have hkd := get_dat hpre hkm
          rw [← hw] at hkd
          have hkf := hf.x _ (get_memN hpre hkm)
          rw [← hw] at hkf
          have hct := containsI_spec (Cof.get (y.ps.take p) (k : Int)).A (Cof.get (y.ps.take p) (k : Int)).m (Cof.get (y.ps.take p) (k : Int)).c (Cof.get (y.ps.take p) (k : Int)).d.xs (Cof.get (Cof.get y.ps (p : Int)).d.xs (i : Int)) (by omega)
          rw [hkd] at hct rk
          repeat' (first | (refine XL_id ?_; first | refine XL_nil ?_ | (refine XG_load ?_; first | refine XL_load tt_ok 0 rfl rfl rfl rfl rfl rfl ?_ | refine XL_elW tt_ok rfl (by assumption) rfl (by omega) (by omega) rfl rfl rfl rfl ?_) | (refine XG_idx ?_; refine XL_idx tt_ok rfl rfl rfl rfl rfl (by assumption) (by omega) (by omega) rfl ?_) | (refine XG_call ?_; (refine XL_fn hct rfl rfl (fun g hg hL => rk.le hg) ?_; refine XL_dec (fun hin => ?_) (fun hin => ?_))) | (refine XG_alloc ?_; (refine XL_alloc tt_ok rfl rfl (fun _ => rfl) (fun b => ?_); refine XL_nB (by repeat' (first | exact .nil | apply NL.cons)) ?_)) | (refine XG_store ?_; (refine XL_storeW tt_ok 0 rfl rfl rfl rfl rfl rfl rfl ?_; refine XL_nK 0 rfl (by repeat' (first | exact .nil | apply NL.cons)) ?_)) | (refine XL_op tt_ok rfl rfl ?_; try (first | refine XL_int (wrap_i64 (by omega) (by omega)) ?_ | refine XL_dec_t (by omega) ?_))) | (refine X_id ?_; first | refine X_seq ?_ | (refine X_regionN (by repeat' (first | exact .nil | apply NL.cons)) ?_) | refine X_skip ?_ | refine X_ret ?_ | refine X_block ?_ | refine X_cond_t rfl ?_ | refine X_cond_f rfl ?_) | (refine Y_id ?_; first | refine Y_then ?_ | refine Y_then_ret ?_ | refine Y_block_normal ?_ | refine Y_block_ret ?_))
          all_goals first
            | exact Y_fn1 rfl rfl (bool_f (fun h => (h.2 i (by omega)).2.2.2 k hkp (by rw [hv2, ← hv]; exact hin)))
            | exact Y_again (k + 1) fun _ _ hf hs => ⟨⟨hkp, fun j hj => by by_cases hj2 : j < k; exact hnot j hj2; obtain rfl : j = k := (by omega); rw [← hv]; exact hin⟩, by show p - (k + 1) < p - k; omega, hf.sub (by (repeat' (first | exact trivial | refine And.intro rfl ?_)); done), hs.imp fun h hs => stars_only [1] rfl h hs⟩
            | skip
          
        · repeat' (first | (refine XL_id ?_; first | refine XL_nil ?_ | (refine XL_op tt_ok rfl rfl ?_; try (refine XL_dec_f (by omega) ?_))) | (refine X_id ?_; first | refine X_seq ?_ | (refine X_regionN (by repeat' (first | exact .nil | apply NL.cons)) ?_) | refine X_exit ?_ | refine X_cond_f rfl ?_) | (refine Y_id ?_; first | refine Y_then ?_ | refine Y_then_exit ?_ | refine Y_block_hit ?_))
          all_goals first
            | exact Y_again () fun _ _ hf hs => ⟨Good.mk hv2 (by rw [← hv]; assumption) (by rw [← hv]; assumption) (fun h0 => by rw [hi1 h0, hv3, ← hv]; omega) (fun j hj => hnot j (by omega)), hf.sub (by (repeat' (first | exact trivial | refine And.intro rfl ?_)); done), hs⟩
            | (exfalso; omega)
            | skip
          )
      
    · repeat' (first | (refine XL_id ?_; first | refine XL_nil ?_ | (refine XL_op tt_ok rfl rfl ?_; try (refine XL_dec_f (by omega) ?_))) | (refine X_id ?_; first | refine X_seq ?_ | (refine X_regionN (by repeat' (first | exact .nil | apply NL.cons)) ?_) | refine X_exit ?_ | refine X_cond_f rfl ?_) | (refine Y_id ?_; first | refine Y_then ?_ | refine Y_then_exit ?_ | refine Y_block_hit ?_))
      all_goals first
        | exact Y_again () fun _ _ hf hs => ⟨fun j hj => hgd j (by omega), hf.sub (by (repeat' (first | exact trivial | refine And.intro rfl ?_)); done), hs⟩
        | (exfalso; omega)
        | skip
      
  all_goals first
    | exact Y_fn1 rfl rfl (bool_t ⟨by omega, fun j hj2 => hj j (by omega)⟩)
    | exact Y_fn1 rfl rfl (bool_f (fun h => by have := h.1; omega))
    | skip
  
end Go.Proofs.Ytalkcemelegohaa.Pl
