/- A core in memory: what is kept of it, and its functions walked. -/
import Derived.Test.YthmllhihldbfoaaCc
import Derived.Test.YthmllhihldbfoaaTlWe
set_option linter.unusedVariables false
namespace Go.Proofs.Ythmllhihldbfoaa
open Go.RowKit Go.Cof

/-- What stands in a core's caches, what is spent. -/
structure Co where
  s1 : List (List Int)
  s2 : List (List Int)
  sp : Int
def k1 (d : Pl.Cd) (pa : Int) : Int := pa / 16 % d.ls
def k2 (d : Pl.Cd) (pa : Int) : Int := setF d.co pa
def hit1 (d : Pl.Cd) (x : Co) (pa : Int) : Bool := decide (pa / 16 ∈ Cof.get x.s1 (k1 d pa))
def hit2 (d : Pl.Cd) (x : Co) (pa : Int) : Bool := !hit1 d x pa && decide (pa / 16 ∈ Cof.get x.s2 (k2 d pa))
def put1 (d : Pl.Cd) (s : List (List Int)) (pa : Int) : List (List Int) := s.set (k1 d pa).toNat (touchF d.lw.toNat (Cof.get s (k1 d pa)) (pa / 16))
def put2 (d : Pl.Cd) (s : List (List Int)) (pa : Int) : List (List Int) := s.set (k2 d pa).toNat (touchF d.wa.toNat (Cof.get s (k2 d pa)) (pa / 16))
def oneF (d : Pl.Cd) (x : Co) (pa : Int) : Co := ⟨put1 d x.s1 pa, if hit1 d x pa then x.s2 else put2 d x.s2 pa, x.sp + cstF d.cs (hit1 d x pa) (hit2 d x pa)⟩
abbrev coL (d : Pl.Cd) (pm pt pd p1 p2 : Nat) (sp : Int) : List Value := [ptr pm, ptr pt, ptr pd, .bool true, ptr p1, ptr p2, uV d.ls, iV d.co, uV (d.fr * 256), uV d.cs.l1, uV d.cs.ll, uV d.cs.ms, uV d.cs.fa, uV d.cs.st, uV d.cs.di, uV sp]
structure Pq where
  pm : Nat
  pt : Nat
  pd : Nat
  p1 : Nat
  p2 : Nat
abbrev coB (h : Nat) (d : Pl.Cd) (y : Pq) (sp : Int) : HProp := blk h (coL d y.pm y.pt y.pd y.p1 y.p2 sp) 58
abbrev coM (h : Nat) (d : Pl.Cd) (x : Co) (ts : List Tl.Tr) (y : Pq) : List HProp := [coB h d y x.sp, isCa y.p1 d.ls.toNat d.lw.toNat x.s1, isCa y.p2 (d.co * 16).toNat d.wa.toNat x.s2, Tl.isTlb y.pt d.tl ts]
def isCo (h : Nat) (d : Pl.Cd) (x : Co) (ts : List Tl.Tr) : HProp := fun g => ∃ y : Pq, stars (coM h d x ts y) g
theorem conone_spec (h : Nat) (d : Pl.Cd) (y : Pq) (sp : Int) : FnC Try.prog 24 [ptr h] (fun g => coB h d y sp g) (.bool false) := by
  refine Ctr.intro Try.func24 rfl rfl (by decide +kernel) fun F hpre => ?_
  have hb : coB h d y sp F.heap := hpre
  repeat' (first | (refine XL_id ?_; first | refine XL_nil ?_ | refine XL_guard_yes rfl rfl rfl ?_ | (refine XG_load ?_; refine XL_loadF tt_ok rfl (by assumption) rfl rfl rfl rfl ?_) | (refine XL_op tt_ok rfl rfl ?_)) | (refine X_id ?_; first | refine X_seq ?_ | (refine X_regionN (by repeat' (exact .nil)) ?_) | refine X_ret ?_) | (refine Y_id ?_; refine Y_then ?_))
  all_goals first
    | exact Y_fn1 rfl rfl rfl
    | skip
  
theorem k1_rng {d : Pl.Cd} {pa : Int} (hm : Pl.MachP d) (h0 : 0 ≤ pa) : 0 ≤ k1 d pa ∧ k1 d pa < (d.ls.toNat : Int) := by
  have h1 := hm.ls
  unfold k1
  have a := Int.emod_nonneg (pa / 16) (show d.ls ≠ 0 by omega)
  have b := Int.emod_lt_of_pos (pa / 16) (show 0 < d.ls by omega)
  omega
theorem k2_rng {d : Pl.Cd} {pa : Int} (hm : Pl.MachP d) (h0 : 0 ≤ pa) : 0 ≤ k2 d pa ∧ k2 d pa < ((d.co * 16).toNat : Int) := by
  have h1 := hm.co
  have := setF_rng (co := d.co) h1.1 h0
  unfold k2; omega
set_option maxRecDepth 100000 in
set_option maxHeartbeats 8000000 in
theorem one_spec (h : Nat) (d : Pl.Cd) (x : Co) (ts : List Tl.Tr) (pa : Int) (hm : Pl.MachP d) (hc : Pl.CostP d.cs) (h0 : 0 ≤ pa) (h1 : pa < d.fr * 256) (hs0 : 0 ≤ x.sp) (hs1 : x.sp ≤ 9223372036854775807) :
    Ctr Try.prog 25 [ptr h, uV pa] (fun _ => True) [isCo h d x ts] (fun v L => v = .agg #[.bool (hit1 d x pa), .bool (hit2 d x pa)] ∧ L = [isCo h d (oneF d x pa) ts]) := by
  obtain ⟨a1, a2⟩ := k1_rng hm h0
  obtain ⟨b1, b2⟩ := k2_rng hm h0
  have hfr := hm.fr
  have hco := hm.co
  have hls := hm.ls
  have hln := line_spec pa h0 (by omega)
  have hst := set_spec pa d.co h0 (by omega) hco.1 hco.2
  have hle1 := hc.l1
  have hle2 := hc.ll
  have hle3 := hc.ms
  have hle4 := hc.top
  refine Ctr.intro Try.func25 rfl rfl (by decide +kernel) fun F hpre => ?_
  refine X_openp (φ := fun _ => True) 0 rfl (fun _ ⟨y, hh⟩ => ⟨y, trivial, hh⟩) fun y _ => ?_
  have ht1 := ctouch_spec y.p1 d.ls.toNat d.lw.toNat x.s1 (k1 d pa) (pa / 16) a1 a2
  have ht2 := ctouch_spec y.p2 (d.co * 16).toNat d.wa.toNat x.s2 (k2 d pa) (pa / 16) b1 b2
  have e1 : (pa / 16).tmod d.ls = k1 d pa := Int.tmod_eq_emod_of_nonneg (by omega)
  have hk1 : (-9223372036854775808 ≤ k1 d pa) ∧ k1 d pa < 9223372036854775808 := by omega
  obtain ⟨K1, hK1⟩ : ∃ K1, k1 d pa = K1 := ⟨_, rfl⟩
  have hp1 : put1 d x.s1 pa = x.s1.set K1.toNat (touchF d.lw.toNat (Cof.get x.s1 K1) (pa / 16)) := by unfold put1; rw [hK1]
  by_cases g1 : pa / 16 ∈ Cof.get x.s1 (k1 d pa)
  · have q1 : hit1 d x pa = true := decide_eq_true g1
    have q2 : hit2 d x pa = false := by unfold hit2; rw [q1]; rfl
    have hct := costT_spec d.cs true false hc
    have hof : oneF d x pa = ⟨put1 d x.s1 pa, x.s2, x.sp + d.cs.l1⟩ := by unfold oneF; rw [q1, q2]; rfl
    rw [q1, q2, hof, hp1]
    rw [decide_eq_true g1] at ht1
    rw [show cstF d.cs true false = d.cs.l1 from rfl] at hct
    rw [hK1] at ht1 e1 hk1
    repeat' (first | (refine XL_id ?_; first | refine XL_nil ?_ | (refine XG_load ?_; first | refine XL_loadW tt_ok 3 rfl rfl rfl rfl rfl rfl ?_ | refine XL_load tt_ok 1 rfl rfl rfl rfl rfl rfl ?_ | refine XL_load tt_ok 5 rfl rfl rfl rfl rfl rfl ?_) | (refine XG_call ?_; first | refine XL_fn hln rfl rfl (fun _ _ _ => trivial) ?_ | refine XL_callE [2] ht1 rfl rfl rfl (fun _ _ _ => trivial) ?_ | refine XL_fn hct rfl rfl (fun _ _ _ => trivial) ?_) | (refine XG_alloc ?_; (refine XL_alloc tt_ok rfl rfl (fun _ => rfl) (fun b => ?_); refine XL_nB (by repeat' (first | exact .nil | apply NL.cons)) ?_)) | (refine XG_store ?_; first | (refine XL_storeW tt_ok 4 rfl rfl rfl rfl rfl rfl rfl ?_; refine XL_nK 4 rfl (by repeat' (first | exact .nil | apply NL.cons)) ?_) | (refine XL_store tt_ok 1 rfl rfl rfl rfl rfl rfl rfl rfl ?_; refine XL_nK 1 rfl (by repeat' (first | exact .nil | apply NL.cons)) ?_) | (refine XL_store tt_ok 5 rfl rfl rfl rfl rfl rfl rfl rfl ?_; refine XL_nK 5 rfl (by repeat' (first | exact .nil | apply NL.cons)) ?_)) | (refine XL_op tt_ok rfl rfl ?_; try (refine XL_int (wrap_u64 (by omega) (by omega)) ?_))) | (refine XD_id ?_; first | (refine XD_thaw thaw ?_; refine XD_nil ?_) | (refine XD_id ?_; (first | (refine XD_uL rfl ?_; first | refine XD_s rfl rfl rfl (XV_loadW tt_ok rfl (blk_at 0 rfl hM) rfl rfl rfl) rfl ?_ | refine XD_s rfl rfl rfl (XV_load tt_ok rfl (blk_at 0 rfl hM) rfl rfl rfl) rfl ?_ | refine XD_s rfl rfl rfl (XV_load tt_ok rfl (blk_at 2 rfl hM) rfl rfl rfl) rfl ?_) | (refine XD_u rfl rfl ?_; first | refine XD_s rfl rfl rfl (XV_op tt_ok rfl) rfl ?_ | refine XD_s rfl rfl rfl (XV_op (v := Value.int .u64 K1) tt_ok (by rw [← e1]; exact opV_rem rfl rfl (by omega))) rfl ?_)); try (refine XD_int (wrap_i64 (by omega) (by omega)) ?_)) | refine XD_m rfl rfl ?_) | (refine X_id ?_; first | (refine X_draw (id := 4) [0, 1, 2, 3, 4, 5, 6, 7, 8, 9, 10, 11, 12, 13, 14, 15, 16, 17] (fun | 12 => .m | 17 => .m | _ => .s) (fun _ => false) 8 [2] rfl mixed (by decide +kernel) ?_; intro G hFG hM thaw; show XD _ _ _ _ _ _ [0, 1, 2, 3, 4, 5, 6, 7, 8, 9, 10, 11, 12, 13, 14, 15, 16, 17] _ _ _) | (refine X_drawS (id := 8) [0, 1, 2, 3, 4, 5, 6, 7, 8, 9, 10] (fun | 5 => .m | _ => .s) 8 (by (repeat apply Split.blk); apply Split.keep; (repeat apply Split.blk); apply Split.keep; (repeat apply Split.blk); apply Split.keep; repeat' (first | exact Split.nil | apply Split.blk)) mixed (by decide +kernel) ?_; intro G hFG hM thaw; show XD _ _ _ _ _ _ [0, 1, 2, 3, 4, 5, 6, 7, 8, 9, 10] _ _ _) | refine X_seq ?_ | (refine X_regionN (by repeat' (first | exact .nil | apply NL.cons)) ?_) | refine X_skip ?_ | refine X_ret ?_ | refine X_cond_f rfl ?_) | (refine Y_id ?_; first | refine Y_then ?_ | refine Y_m ?_))
    all_goals first
      | exact Y_res1 rfl (.cell tt_ok 4 rfl rfl rfl rfl rfl) (stars_fin [5, 0, 0, 0] rfl (fun g hg => ⟨y, hg⟩)) ⟨rfl, rfl⟩
      | (exfalso; omega)
      | skip
    
  · have q1 : hit1 d x pa = false := decide_eq_false g1
    rw [decide_eq_false g1] at ht1
    rw [hK1] at ht1 e1 hk1
    obtain ⟨K2, hK2⟩ : ∃ K2, k2 d pa = K2 := ⟨_, rfl⟩
    have hp2 : put2 d x.s2 pa = x.s2.set K2.toNat (touchF d.wa.toNat (Cof.get x.s2 K2) (pa / 16)) := by unfold put2; rw [hK2]
    have hst2 : FnC Try.prog 46 [uV pa, iV d.co] (fun _ => True) (.tuple #[iV K2, iV 0]) := by rw [← hK2]; exact hst
    by_cases g2 : pa / 16 ∈ Cof.get x.s2 (k2 d pa)
    · have q2 : hit2 d x pa = true := by unfold hit2; rw [q1, decide_eq_true g2]; rfl
      have hct := costT_spec d.cs false true hc
      have hof : oneF d x pa = ⟨put1 d x.s1 pa, put2 d x.s2 pa, x.sp + d.cs.ll⟩ := by unfold oneF; rw [q1, q2]; rfl
      rw [q1, q2, hof, hp1, hp2]
      rw [decide_eq_true g2, hK2] at ht2
      rw [show cstF d.cs false true = d.cs.ll from rfl] at hct
      repeat' (first | (refine XL_id ?_; first | refine XL_nil ?_ | (refine XG_load ?_; first | refine XL_loadW tt_ok 3 rfl rfl rfl rfl rfl rfl ?_ | refine XL_load tt_ok 1 rfl rfl rfl rfl rfl rfl ?_ | refine XL_load tt_ok 5 rfl rfl rfl rfl rfl rfl ?_) | (refine XG_call ?_; first | refine XL_fn hln rfl rfl (fun _ _ _ => trivial) ?_ | refine XL_fn hst2 rfl rfl (fun _ _ _ => trivial) ?_ | refine XL_callE [2] ht1 rfl rfl rfl (fun _ _ _ => trivial) ?_ | refine XL_callE [3] ht2 rfl rfl rfl (fun _ _ _ => trivial) ?_ | refine XL_fn hct rfl rfl (fun _ _ _ => trivial) ?_) | (refine XG_alloc ?_; (refine XL_alloc tt_ok rfl rfl (fun _ => rfl) (fun b => ?_); refine XL_nB (by repeat' (first | exact .nil | apply NL.cons)) ?_)) | (refine XG_store ?_; first | (refine XL_storeW tt_ok 4 rfl rfl rfl rfl rfl rfl rfl ?_; refine XL_nK 4 rfl (by repeat' (first | exact .nil | apply NL.cons)) ?_) | (refine XL_store tt_ok 1 rfl rfl rfl rfl rfl rfl rfl rfl ?_; refine XL_nK 1 rfl (by repeat' (first | exact .nil | apply NL.cons)) ?_) | (refine XL_store tt_ok 2 rfl rfl rfl rfl rfl rfl rfl rfl ?_; refine XL_nK 2 rfl (by repeat' (first | exact .nil | apply NL.cons)) ?_) | (refine XL_store tt_ok 5 rfl rfl rfl rfl rfl rfl rfl rfl ?_; refine XL_nK 5 rfl (by repeat' (first | exact .nil | apply NL.cons)) ?_)) | (refine XL_op tt_ok rfl rfl ?_; try (refine XL_int (wrap_u64 (by omega) (by omega)) ?_))) | (refine XD_id ?_; first | (refine XD_thaw thaw ?_; refine XD_nil ?_) | (refine XD_id ?_; (first | (refine XD_uL rfl ?_; first | refine XD_s rfl rfl rfl (XV_loadW tt_ok rfl (blk_at 0 rfl hM) rfl rfl rfl) rfl ?_ | refine XD_s rfl rfl rfl (XV_load tt_ok rfl (blk_at 0 rfl hM) rfl rfl rfl) rfl ?_ | refine XD_s rfl rfl rfl (XV_load tt_ok rfl (blk_at 2 rfl hM) rfl rfl rfl) rfl ?_) | (refine XD_u rfl rfl ?_; first | refine XD_s rfl rfl rfl (XV_op tt_ok rfl) rfl ?_ | refine XD_s rfl rfl rfl (XV_op (v := Value.int .u64 K1) tt_ok (by rw [← e1]; exact opV_rem rfl rfl (by omega))) rfl ?_)); try (refine XD_int (wrap_i64 (by omega) (by omega)) ?_)) | refine XD_m rfl rfl ?_) | (refine X_id ?_; first | (refine X_draw (id := 4) [0, 1, 2, 3, 4, 5, 6, 7, 8, 9, 10, 11, 12, 13, 14, 15, 16, 17] (fun | 12 => .m | 17 => .m | _ => .s) (fun _ => false) 8 [2] rfl mixed (by decide +kernel) ?_; intro G hFG hM thaw; show XD _ _ _ _ _ _ [0, 1, 2, 3, 4, 5, 6, 7, 8, 9, 10, 11, 12, 13, 14, 15, 16, 17] _ _ _) | (refine X_drawS (id := 8) [0, 1, 2, 3, 4, 5, 6, 7, 8, 9, 10] (fun | 5 => .m | _ => .s) 8 (by (repeat apply Split.blk); apply Split.keep; (repeat apply Split.blk); apply Split.keep; (repeat apply Split.blk); apply Split.keep; repeat' (first | exact Split.nil | apply Split.blk)) mixed (by decide +kernel) ?_; intro G hFG hM thaw; show XD _ _ _ _ _ _ [0, 1, 2, 3, 4, 5, 6, 7, 8, 9, 10] _ _ _) | refine X_seq ?_ | (refine X_regionN (by repeat' (first | exact .nil | apply NL.cons)) ?_) | refine X_ret ?_ | refine X_cond_t rfl ?_) | (refine Y_id ?_; first | refine Y_then ?_ | refine Y_m ?_))
      all_goals first
        | exact Y_res1 rfl (.cell tt_ok 4 rfl rfl rfl rfl rfl) (stars_fin [5, 1, 0, 0] rfl (fun g hg => ⟨y, hg⟩)) ⟨rfl, rfl⟩
        | (exfalso; omega)
        | skip
      
    · have q2 : hit2 d x pa = false := by unfold hit2; rw [q1, decide_eq_false g2]; rfl
      have hct := costT_spec d.cs false false hc
      have hof : oneF d x pa = ⟨put1 d x.s1 pa, put2 d x.s2 pa, x.sp + d.cs.ms⟩ := by unfold oneF; rw [q1, q2]; rfl
      rw [q1, q2, hof, hp1, hp2]
      rw [decide_eq_false g2, hK2] at ht2
      rw [show cstF d.cs false false = d.cs.ms from rfl] at hct
      repeat' (first | (refine XL_id ?_; first | refine XL_nil ?_ | (refine XG_load ?_; first | refine XL_loadW tt_ok 3 rfl rfl rfl rfl rfl rfl ?_ | refine XL_load tt_ok 1 rfl rfl rfl rfl rfl rfl ?_ | refine XL_load tt_ok 5 rfl rfl rfl rfl rfl rfl ?_) | (refine XG_call ?_; first | refine XL_fn hln rfl rfl (fun _ _ _ => trivial) ?_ | refine XL_fn hst2 rfl rfl (fun _ _ _ => trivial) ?_ | refine XL_callE [2] ht1 rfl rfl rfl (fun _ _ _ => trivial) ?_ | refine XL_callE [3] ht2 rfl rfl rfl (fun _ _ _ => trivial) ?_ | refine XL_fn hct rfl rfl (fun _ _ _ => trivial) ?_) | (refine XG_alloc ?_; (refine XL_alloc tt_ok rfl rfl (fun _ => rfl) (fun b => ?_); refine XL_nB (by repeat' (first | exact .nil | apply NL.cons)) ?_)) | (refine XG_store ?_; first | (refine XL_storeW tt_ok 4 rfl rfl rfl rfl rfl rfl rfl ?_; refine XL_nK 4 rfl (by repeat' (first | exact .nil | apply NL.cons)) ?_) | (refine XL_store tt_ok 1 rfl rfl rfl rfl rfl rfl rfl rfl ?_; refine XL_nK 1 rfl (by repeat' (first | exact .nil | apply NL.cons)) ?_) | (refine XL_store tt_ok 2 rfl rfl rfl rfl rfl rfl rfl rfl ?_; refine XL_nK 2 rfl (by repeat' (first | exact .nil | apply NL.cons)) ?_) | (refine XL_store tt_ok 5 rfl rfl rfl rfl rfl rfl rfl rfl ?_; refine XL_nK 5 rfl (by repeat' (first | exact .nil | apply NL.cons)) ?_)) | (refine XL_op tt_ok rfl rfl ?_; try (refine XL_int (wrap_u64 (by omega) (by omega)) ?_))) | (refine XD_id ?_; first | (refine XD_thaw thaw ?_; refine XD_nil ?_) | (refine XD_id ?_; (first | (refine XD_uL rfl ?_; first | refine XD_s rfl rfl rfl (XV_loadW tt_ok rfl (blk_at 0 rfl hM) rfl rfl rfl) rfl ?_ | refine XD_s rfl rfl rfl (XV_load tt_ok rfl (blk_at 0 rfl hM) rfl rfl rfl) rfl ?_ | refine XD_s rfl rfl rfl (XV_load tt_ok rfl (blk_at 2 rfl hM) rfl rfl rfl) rfl ?_) | (refine XD_u rfl rfl ?_; first | refine XD_s rfl rfl rfl (XV_op tt_ok rfl) rfl ?_ | refine XD_s rfl rfl rfl (XV_op (v := Value.int .u64 K1) tt_ok (by rw [← e1]; exact opV_rem rfl rfl (by omega))) rfl ?_)); try (refine XD_int (wrap_i64 (by omega) (by omega)) ?_)) | refine XD_m rfl rfl ?_) | (refine X_id ?_; first | (refine X_draw (id := 4) [0, 1, 2, 3, 4, 5, 6, 7, 8, 9, 10, 11, 12, 13, 14, 15, 16, 17] (fun | 12 => .m | 17 => .m | _ => .s) (fun _ => false) 8 [2] rfl mixed (by decide +kernel) ?_; intro G hFG hM thaw; show XD _ _ _ _ _ _ [0, 1, 2, 3, 4, 5, 6, 7, 8, 9, 10, 11, 12, 13, 14, 15, 16, 17] _ _ _) | (refine X_drawS (id := 8) [0, 1, 2, 3, 4, 5, 6, 7, 8, 9, 10] (fun | 5 => .m | _ => .s) 8 (by (repeat apply Split.blk); apply Split.keep; (repeat apply Split.blk); apply Split.keep; (repeat apply Split.blk); apply Split.keep; repeat' (first | exact Split.nil | apply Split.blk)) mixed (by decide +kernel) ?_; intro G hFG hM thaw; show XD _ _ _ _ _ _ [0, 1, 2, 3, 4, 5, 6, 7, 8, 9, 10] _ _ _) | refine X_seq ?_ | (refine X_regionN (by repeat' (first | exact .nil | apply NL.cons)) ?_) | refine X_ret ?_ | refine X_cond_t rfl ?_) | (refine Y_id ?_; first | refine Y_then ?_ | refine Y_m ?_))
      all_goals first
        | exact Y_res1 rfl (.cell tt_ok 4 rfl rfl rfl rfl rfl) (stars_fin [5, 1, 0, 0] rfl (fun g hg => ⟨y, hg⟩)) ⟨rfl, rfl⟩
        | (exfalso; omega)
        | skip
      
theorem settle_spec (h : Nat) (d : Pl.Cd) (x : Co) (ts : List Tl.Tr) : Ctr Try.prog 9 [ptr h] (fun _ => True) [isCo h d x ts] (fun v L => v = .tuple #[uV x.sp, iV 0] ∧ L = [isCo h d ⟨x.s1, x.s2, 0⟩ ts]) := by
  refine Ctr.intro Try.func9 rfl rfl (by decide +kernel) fun F hpre => ?_
  refine X_openp (φ := fun _ => True) 0 rfl (fun _ ⟨y, hh⟩ => ⟨y, trivial, hh⟩) fun y _ => ?_
  repeat' (first | (refine XL_id ?_; first | refine XL_nil ?_ | (refine XG_load ?_; refine XL_load tt_ok 0 rfl rfl rfl rfl rfl rfl ?_) | (refine XG_call ?_; refine XL_fn (conone_spec h d y _) rfl rfl (fun g hg hL => blk_at 0 rfl hL) ?_) | (refine XG_store ?_; (refine XL_store tt_ok 0 rfl rfl rfl rfl rfl rfl rfl rfl ?_; refine XL_nK 0 rfl (by repeat' (first | exact .nil | apply NL.cons)) ?_)) | (refine XL_op tt_ok rfl rfl ?_)) | (refine X_id ?_; first | refine X_seq ?_ | (refine X_regionN (by repeat' (first | exact .nil | apply NL.cons)) ?_) | refine X_skip ?_ | refine X_ret ?_ | refine X_cond_f rfl ?_) | (refine Y_id ?_; refine Y_then ?_))
  all_goals first
    | exact Y_ret2 rfl rfl rfl (stars_fin [0, 0, 0, 0] rfl (fun g hg => ⟨y, hg⟩)) ⟨rfl, rfl⟩
    | (exfalso; omega)
    | skip
  
theorem colines_spec (h : Nat) (d : Pl.Cd) (x : Co) (ts : List Tl.Tr) : Ctr Try.prog 10 [ptr h] (fun _ => True) [isCo h d x ts] (fun v L => ∃ A c, v = .slice A (linesF x.s2).length c ∧ L = [own encLn A (linesF x.s2).length c (linesF x.s2), isCo h d x ts]) := by
  refine Ctr.intro Try.func10 rfl rfl (by decide +kernel) fun F hpre => ?_
  refine X_openp (φ := fun _ => True) 0 rfl (fun _ ⟨y, hh⟩ => ⟨y, trivial, hh⟩) fun y _ => ?_
  repeat' (first | (refine XL_id ?_; first | refine XL_nil ?_ | (refine XG_load ?_; refine XL_load tt_ok 0 rfl rfl rfl rfl rfl rfl ?_) | (refine XG_call ?_; first | refine XL_fn (conone_spec h d y _) rfl rfl (fun g hg hL => blk_at 0 rfl hL) ?_ | (refine XL_callK [2] (clines_spec y.p2 _ _ x.s2) rfl rfl (fun _ => rfl) (fun _ _ _ => trivial) (fun u L hv => ?_); obtain ⟨A2, c2, rfl, rfl⟩ := hv)) | (refine XL_op tt_ok rfl rfl ?_)) | (refine X_id ?_; first | refine X_seq ?_ | (refine X_regionN (by repeat' (first | exact .nil | apply NL.cons)) ?_) | refine X_skip ?_ | refine X_ret ?_ | refine X_cond_f rfl ?_) | (refine Y_id ?_; refine Y_then ?_))
  all_goals first
    | exact Y_ret1 rfl rfl (fun g hg => stars_take [1, 0] rfl (stars_shut (A := isCo h d x ts) (fun g hg => ⟨y, hg⟩) (stars_take [2, 2, 1, 1] rfl hg))) ⟨_, _, rfl, rfl⟩
    | (exfalso; omega)
    | skip
  
theorem isCa_cnt {p n w : Nat} {s : List (List Int)} {g : Hp} (h : isCa p n w s g) : CaOk n w s := let ⟨_, hok, _⟩ := h; hok.ok
theorem isTlb_ok {p : Nat} {n : Int} {ts : List Tl.Tr} {g : Hp} (h : Tl.isTlb p n ts g) : Tl.TOk n ts := let ⟨_, hok, _⟩ := h; hok
theorem leave_spec (h : Nat) (d : Pl.Cd) (x : Co) (ts : List Tl.Tr) (hc : Pl.CostP d.cs) : Ctr Try.prog 13 [ptr h] (fun _ => True) [isCo h d x ts] (fun v L => v = .tuple #[uV (((cntS x.s1 : Nat) + (ts.length : Int)) * d.cs.st), iV 0] ∧ L = [isCo h d ⟨List.replicate d.ls.toNat [], x.s2, x.sp⟩ []]) := by
  refine Ctr.intro Try.func13 rfl rfl (by decide +kernel) fun F hpre => ?_
  refine X_openp (φ := fun _ => True) 0 rfl (fun _ ⟨y, hh⟩ => ⟨y, trivial, hh⟩) fun y _ => ?_
  refine X_fact 1 rfl (fun _ o => (isCa_cnt o).cnt) fun hcn => ?_
  refine X_fact 3 rfl (fun _ o => isTlb_ok o) fun hto => ?_
  have htl : ts.length ≤ 64 := by
    have h1 := hto.len
    have h2 := hto.n2
    omega
  have hsw := switch_spec d.cs (cntS x.s1 : Nat) ts.length hc (by omega) (by omega)
  repeat' (first | (refine XL_id ?_; first | refine XL_nil ?_ | (refine XG_load ?_; first | refine XL_load tt_ok 0 rfl rfl rfl rfl rfl rfl ?_ | refine XL_load tt_ok 1 rfl rfl rfl rfl rfl rfl ?_ | refine XL_load tt_ok 2 rfl rfl rfl rfl rfl rfl ?_) | (refine XG_call ?_; first | refine XL_fn (conone_spec h d y _) rfl rfl (fun g hg hL => blk_at 0 rfl hL) ?_ | refine XL_callE [1] (cflush_spec y.p1 _ _ x.s1) rfl rfl rfl (fun _ _ _ => trivial) ?_ | refine XL_callE [3] (Tl.empty_is y.pt d.tl ts) rfl rfl rfl (fun _ _ _ => trivial) ?_ | refine XL_fn hsw rfl rfl (fun _ _ _ => trivial) ?_) | (refine XL_op tt_ok rfl rfl ?_; try (refine XL_dec_f (by omega) ?_))) | (refine X_id ?_; first | refine X_seq ?_ | (refine X_regionN (by repeat' (first | exact .nil | apply NL.cons)) ?_) | refine X_skip ?_ | refine X_ret ?_ | refine X_cond_f rfl ?_) | (refine Y_id ?_; refine Y_then ?_))
  all_goals first
    | exact Y_ret2 rfl rfl rfl (stars_fin [2, 1, 1, 0] rfl (fun g hg => ⟨y, hg⟩)) ⟨rfl, rfl⟩
    | (exfalso; omega)
    | skip
  
end Go.Proofs.Ythmllhihldbfoaa
