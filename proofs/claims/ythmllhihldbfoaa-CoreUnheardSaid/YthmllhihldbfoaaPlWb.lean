/- The worst costs: program and reference. -/
import Derived.Test.YthmllhihldbfoaaPlWa
set_option linter.unusedVariables false
namespace Go.Proofs.Ythmllhihldbfoaa.Pl
open Go.RowKit Go.Cof

abbrev ptr (p : Nat) : Value := .pointer (some ⟨p, 0, none⟩)
structure Sh where
  im : Int
  us : Int
  li : Int
  no : Int
deriving DecidableEq
abbrev shL (s : Sh) : List Value := [iV s.im, iV s.us, iV s.li, iV s.no]
abbrev shV (s : Sh) : Value := .agg #[iV s.im, iV s.us, iV s.li, iV s.no]
structure ShP (s : Sh) : Prop where
  im : s.im = 1 ∨ s.im = 2 ∨ s.im = 4 ∨ s.im = 8
  us : 2 ≤ s.us ∧ s.us ≤ 4096
  li : 1 ≤ s.li ∧ s.li ≤ 5120
  no : 1 ≤ s.no ∧ s.no ≤ 4096
abbrev mx (x y : Int) : Int := if y > x then y else x
/-- What the calls' bounds are made of: a page, all pages, a frame. -/
abbrev pgF (x : Cs) : Int := x.st + 2 * x.ms
abbrev alF (x : Cs) (s : Sh) : Int := s.li * pgF x
abbrev frF (x : Cs) (s : Sh) : Int := (2 * s.us + 1) * x.st + x.di
def bhL (m st fa di no pg al fr : Int) : List Int := [0, 17 * m, al + m, m + 16 * no * m + al, 113 * m, 64 * pg, 64 * (st + m) + m, mx (113 * m) (64 * pg), 26 * m + fa + fr + di, 64 * m + 2 * fa + 2 * fr + di]
abbrev bhs (x : Cs) (s : Sh) : List Int := bhL x.ms x.st x.fa x.di s.no (pgF x) (alF x s) (frF x s)
def mxL (l : List Int) : Int := l.foldl mx 0
def mostF (x : Cs) (s : Sh) : Int := s.im * x.ms + mxL (bhs x s)
/-- The numbers' bounds. -/
structure Nums (m st fa di im no li us pg al fr : Int) : Prop where
  hm : 1 ≤ m ∧ m ≤ 65536
  hst : 1 ≤ st ∧ st ≤ 65536
  hfa : 1 ≤ fa ∧ fa ≤ 65536
  hdi : 1 ≤ di ∧ di ≤ 65536
  hpg : pg = st + 2 * m
  hal : al = li * pg
  alb : 0 ≤ al ∧ al ≤ 1006632960
  hfr : fr = (2 * us + 1) * st + di
  frs : 0 ≤ (2 * us + 1) * st ∧ (2 * us + 1) * st ≤ 536936448
  hno : 0 ≤ 16 * no * m ∧ 16 * no * m ≤ 4294967296
  him : 0 ≤ im * m ∧ im * m ≤ 524288
theorem nums {x : Cs} {s : Sh} (hc : CostP x) (hs : ShP s) : Nums x.ms x.st x.fa x.di s.im s.no s.li s.us (pgF x) (alF x s) (frF x s) := by
  have a1 := hc.l1; have a2 := hc.ll; have a3 := hc.ms; have a4 := hc.top
  have h1 := hs.us; have h2 := hs.li; have h3 := hs.no; have h4 := hs.im
  have b := hc.st
  refine ⟨by omega, hc.st, hc.fa, hc.di, rfl, rfl, ⟨Int.mul_nonneg (by omega) (by show 0 ≤ x.st + 2 * x.ms; omega), ?_⟩, rfl, ⟨Int.mul_nonneg (by omega) (by omega), ?_⟩, ⟨Int.mul_nonneg (by omega) (by omega), ?_⟩, ⟨Int.mul_nonneg (by omega) (by omega), ?_⟩⟩
  · exact Int.le_trans (Int.mul_le_mul h2.2 (show x.st + 2 * x.ms ≤ 196608 by omega) (by show 0 ≤ x.st + 2 * x.ms; omega) (by decide)) (by decide)
  · exact Int.le_trans (Int.mul_le_mul (show 2 * s.us + 1 ≤ 8193 by omega) b.2 (by omega) (by decide)) (by decide)
  · exact Int.le_trans (Int.mul_le_mul (show 16 * s.no ≤ 65536 by omega) a4 (by omega) (by decide)) (by decide)
  · exact Int.le_trans (Int.mul_le_mul (show s.im ≤ 8 by omega) a4 (by omega) (by decide)) (by decide)
theorem clo1_spec (m : Int) (a : Nat) (hb : 0 ≤ m ∧ m ≤ 65536) : FnC Try.prog 71 [ptr a] (fun h => blk a [uV m] 22 h) (uV (113 * m)) := by
  refine Ctr.intro Try.func71 rfl rfl (by decide +kernel) fun F hpre => ?_
  have hpre : blk a [uV m] 22 F.heap := hpre
  have q0 := hpre
  repeat' (first | (refine XL_id ?_; first | refine XL_nil ?_ | (refine XG_load ?_; refine XL_loadF tt_ok rfl (by assumption) rfl rfl rfl rfl ?_) | (refine XL_op tt_ok rfl rfl ?_; try (refine XL_int (wrap_u64 (by omega) (by omega)) ?_))) | (refine X_id ?_; first | refine X_seq ?_ | (refine X_regionN (by repeat' (exact .nil)) ?_) | refine X_ret ?_) | (refine Y_id ?_; refine Y_then ?_))
  all_goals first
    | exact Y_fn1 rfl rfl rfl
    | skip
  
theorem clo2_spec (pg : Int) (a : Nat) (hb : 0 ≤ pg ∧ pg ≤ 196608) : FnC Try.prog 72 [ptr a] (fun h => blk a [uV pg] 22 h) (uV (64 * pg)) := by
  refine Ctr.intro Try.func72 rfl rfl (by decide +kernel) fun F hpre => ?_
  have hpre : blk a [uV pg] 22 F.heap := hpre
  have q0 := hpre
  repeat' (first | (refine XL_id ?_; first | refine XL_nil ?_ | (refine XG_load ?_; refine XL_loadF tt_ok rfl (by assumption) rfl rfl rfl rfl ?_) | (refine XL_op tt_ok rfl rfl ?_; try (refine XL_int (wrap_u64 (by omega) (by omega)) ?_))) | (refine X_id ?_; first | refine X_seq ?_ | (refine X_regionN (by repeat' (exact .nil)) ?_) | refine X_ret ?_) | (refine Y_id ?_; refine Y_then ?_))
  all_goals first
    | exact Y_fn1 rfl rfl rfl
    | skip
  
theorem clo4_spec (m : Int) (a : Nat) (hb : 0 ≤ m ∧ m ≤ 65536) : FnC Try.prog 74 [ptr a] (fun h => blk a [uV m] 22 h) (uV (17 * m)) := by
  refine Ctr.intro Try.func74 rfl rfl (by decide +kernel) fun F hpre => ?_
  have hpre : blk a [uV m] 22 F.heap := hpre
  have q0 := hpre
  repeat' (first | (refine XL_id ?_; first | refine XL_nil ?_ | (refine XG_load ?_; refine XL_loadF tt_ok rfl (by assumption) rfl rfl rfl rfl ?_) | (refine XL_op tt_ok rfl rfl ?_; try (refine XL_int (wrap_u64 (by omega) (by omega)) ?_))) | (refine X_id ?_; first | refine X_seq ?_ | (refine X_regionN (by repeat' (exact .nil)) ?_) | refine X_ret ?_) | (refine Y_id ?_; refine Y_then ?_))
  all_goals first
    | exact Y_fn1 rfl rfl rfl
    | skip
  
theorem clo5_spec (al m : Int) (a b : Nat) (hb : (0 ≤ m ∧ m ≤ 65536) ∧ 0 ≤ al ∧ al ≤ 1006632960) : FnC Try.prog 75 [ptr a, ptr b] (fun h => blk a [uV al] 22 h ∧ blk b [uV m] 22 h) (uV (al + m)) := by
  refine Ctr.intro Try.func75 rfl rfl (by decide +kernel) fun F hpre => ?_
  have hpre : blk a [uV al] 22 F.heap ∧ blk b [uV m] 22 F.heap := hpre
  obtain ⟨q0, q1⟩ := hpre
  repeat' (first | (refine XL_id ?_; first | refine XL_nil ?_ | (refine XG_load ?_; refine XL_loadF tt_ok rfl (by assumption) rfl rfl rfl rfl ?_) | (refine XL_op tt_ok rfl rfl ?_; try (refine XL_int (wrap_u64 (by omega) (by omega)) ?_))) | (refine X_id ?_; first | refine X_seq ?_ | (refine X_regionN (by repeat' (exact .nil)) ?_) | refine X_ret ?_) | (refine Y_id ?_; refine Y_then ?_))
  all_goals first
    | exact Y_fn1 rfl rfl rfl
    | skip
  
theorem clo6_spec (m al : Int) (s : Sh) (a b c : Nat) (hb : (0 ≤ m ∧ m ≤ 65536) ∧ (0 ≤ al ∧ al ≤ 1006632960) ∧ (1 ≤ s.no ∧ s.no ≤ 4096) ∧ 0 ≤ 16 * s.no * m ∧ 16 * s.no * m ≤ 4294967296) : FnC Try.prog 76 [ptr a, ptr b, ptr c] (fun h => blk a [uV m] 22 h ∧ blk b (shL s) 122 h ∧ blk c [uV al] 22 h) (uV (m + 16 * s.no * m + al)) := by
  refine Ctr.intro Try.func76 rfl rfl (by decide +kernel) fun F hpre => ?_
  have hpre : blk a [uV m] 22 F.heap ∧ blk b (shL s) 122 F.heap ∧ blk c [uV al] 22 F.heap := hpre
  obtain ⟨q0, q1, q2⟩ := hpre
  repeat' (first | (refine XL_id ?_; first | refine XL_nil ?_ | (refine XG_load ?_; refine XL_loadF tt_ok rfl (by assumption) rfl rfl rfl rfl ?_) | (refine XL_op tt_ok rfl rfl ?_; try (refine XL_int (wrap_u64 (by omega) (by omega)) ?_))) | (refine X_id ?_; first | refine X_seq ?_ | (refine X_regionN (by repeat' (exact .nil)) ?_) | refine X_ret ?_) | (refine Y_id ?_; refine Y_then ?_))
  all_goals first
    | exact Y_fn1 rfl rfl rfl
    | skip
  
theorem clo7_spec (x : Cs) (a b : Nat) (hb : CostP x) : FnC Try.prog 77 [ptr a, ptr b] (fun h => blk a (csL x) 24 h ∧ blk b [uV x.ms] 22 h) (uV (64 * (x.st + x.ms) + x.ms)) := by
  have hc : CostP x := hb
  obtain ⟨c1, c2, c3, c4, c5, c6, c7⟩ := hc
  refine Ctr.intro Try.func77 rfl rfl (by decide +kernel) fun F hpre => ?_
  have hpre : blk a (csL x) 24 F.heap ∧ blk b [uV x.ms] 22 F.heap := hpre
  obtain ⟨q0, q1⟩ := hpre
  repeat' (first | (refine XL_id ?_; first | refine XL_nil ?_ | (refine XG_load ?_; refine XL_loadF tt_ok rfl (by assumption) rfl rfl rfl rfl ?_) | (refine XL_op tt_ok rfl rfl ?_; try (refine XL_int (wrap_u64 (by omega) (by omega)) ?_))) | (refine X_id ?_; first | refine X_seq ?_ | (refine X_regionN (by repeat' (exact .nil)) ?_) | refine X_ret ?_) | (refine Y_id ?_; refine Y_then ?_))
  all_goals first
    | exact Y_fn1 rfl rfl rfl
    | skip
  
theorem clo9_spec (fr : Int) (x : Cs) (a b c : Nat) (hb : CostP x ∧ 0 ≤ fr ∧ fr ≤ 537001984) : FnC Try.prog 79 [ptr a, ptr b, ptr c] (fun h => blk a [uV x.ms] 22 h ∧ blk b (csL x) 24 h ∧ blk c [uV fr] 22 h) (uV (26 * x.ms + x.fa + fr + x.di)) := by
  have hc : CostP x := hb.1
  obtain ⟨c1, c2, c3, c4, c5, c6, c7⟩ := hc
  have hb2 := hb.2
  refine Ctr.intro Try.func79 rfl rfl (by decide +kernel) fun F hpre => ?_
  have hpre : blk a [uV x.ms] 22 F.heap ∧ blk b (csL x) 24 F.heap ∧ blk c [uV fr] 22 F.heap := hpre
  obtain ⟨q0, q1, q2⟩ := hpre
  repeat' (first | (refine XL_id ?_; first | refine XL_nil ?_ | (refine XG_load ?_; refine XL_loadF tt_ok rfl (by assumption) rfl rfl rfl rfl ?_) | (refine XL_op tt_ok rfl rfl ?_; try (refine XL_int (wrap_u64 (by omega) (by omega)) ?_))) | (refine X_id ?_; first | refine X_seq ?_ | (refine X_regionN (by repeat' (exact .nil)) ?_) | refine X_ret ?_) | (refine Y_id ?_; refine Y_then ?_))
  all_goals first
    | exact Y_fn1 rfl rfl rfl
    | skip
  
theorem clo10_spec (fr : Int) (x : Cs) (a b c : Nat) (hb : CostP x ∧ 0 ≤ fr ∧ fr ≤ 537001984) : FnC Try.prog 80 [ptr a, ptr b, ptr c] (fun h => blk a [uV x.ms] 22 h ∧ blk b (csL x) 24 h ∧ blk c [uV fr] 22 h) (uV (64 * x.ms + 2 * x.fa + 2 * fr + x.di)) := by
  have hc : CostP x := hb.1
  obtain ⟨c1, c2, c3, c4, c5, c6, c7⟩ := hc
  have hb2 := hb.2
  refine Ctr.intro Try.func80 rfl rfl (by decide +kernel) fun F hpre => ?_
  have hpre : blk a [uV x.ms] 22 F.heap ∧ blk b (csL x) 24 F.heap ∧ blk c [uV fr] 22 F.heap := hpre
  obtain ⟨q0, q1, q2⟩ := hpre
  repeat' (first | (refine XL_id ?_; first | refine XL_nil ?_ | (refine XG_load ?_; refine XL_loadF tt_ok rfl (by assumption) rfl rfl rfl rfl ?_) | (refine XL_op tt_ok rfl rfl ?_; try (refine XL_int (wrap_u64 (by omega) (by omega)) ?_))) | (refine X_id ?_; first | refine X_seq ?_ | (refine X_regionN (by repeat' (exact .nil)) ?_) | refine X_ret ?_) | (refine Y_id ?_; refine Y_then ?_))
  all_goals first
    | exact Y_fn1 rfl rfl rfl
    | skip
  
theorem clo3_spec : FnC Try.prog 73 [] (fun _ => True) (uV 0) := by
  refine Ctr.intro Try.func73 rfl rfl (by decide +kernel) fun F hpre => ?_
  repeat' (first | (refine XL_id ?_; first | refine XL_nil ?_ | (refine XL_op tt_ok rfl rfl ?_)) | (refine X_id ?_; first | refine X_seq ?_ | (refine X_regionN (by repeat' (exact .nil)) ?_) | refine X_ret ?_) | (refine Y_id ?_; refine Y_then ?_))
  all_goals exact Y_fn1 rfl rfl rfl
theorem clo8_spec (m pg : Int) (a b c d : Nat) (h1 : 0 ≤ m ∧ m ≤ 65536) (h2 : 0 ≤ pg ∧ pg ≤ 196608) : FnC Try.prog 78 [ptr c, ptr d] (fun h => blk a [uV m] 22 h ∧ blk b [uV pg] 22 h ∧ blk c [.func (.func 71) #[] #[ptr a]] 130 h ∧ blk d [.func (.func 72) #[] #[ptr b]] 130 h) (uV (mx (113 * m) (64 * pg))) := by
  have hm := clo1_spec m a h1
  have hp := clo2_spec pg b h2
  refine Ctr.intro Try.func78 rfl rfl (by decide +kernel) fun F hpre => ?_
  obtain ⟨q0, q1, q2, q3⟩ := hpre
  repeat' (first | (refine XL_id ?_; first | refine XL_nil ?_ | (refine XG_call ?_; first | refine XL_fnV hm rfl rfl rfl rfl (fun g hg hL => blk_le (blk_le q0 hFG) hg) ?_ | refine XL_fnV hp rfl rfl rfl rfl (fun g hg hL => blk_le (blk_le q1 hFG) hg) ?_) | (refine XL_op tt_ok rfl rfl ?_)) | (refine XD_id ?_; first | (refine XD_thaw thaw ?_; refine XD_nil ?_) | (refine XD_id ?_; (first | (refine XD_uL rfl ?_; refine XD_s rfl rfl rfl (XV_load tt_ok rfl (blk_le (by assumption) hFG) rfl rfl rfl) rfl ?_) | (refine XD_u rfl rfl ?_; refine XD_s rfl rfl rfl (XV_op tt_ok rfl) rfl ?_))) | refine XD_m rfl rfl ?_) | (refine X_id ?_; first | (refine X_drawS (id := 1) [0, 2, 1, 3, 4, 5] (fun | 1 => .m | 3 => .m | _ => .s) 8 (by repeat' (exact Split.nil)) mixed (by decide +kernel) ?_; intro G hFG hM thaw; show XD _ _ _ _ _ _ [0, 2, 1, 3, 4, 5] _ _ _) | refine X_seq ?_ | (refine X_regionN (by repeat' (exact .nil)) ?_) | refine X_ret ?_) | (refine Y_id ?_; first | refine Y_then ?_ | refine Y_m ?_))
  all_goals first
    | exact Y_fn1 rfl rfl rfl
    | skip
  
end Go.Proofs.Ythmllhihldbfoaa.Pl
