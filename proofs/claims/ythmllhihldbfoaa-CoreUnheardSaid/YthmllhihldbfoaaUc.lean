/- CoreUnheard, walked. -/
import Derived.Test.YthmllhihldbfoaaUb
set_option linter.unusedVariables false
namespace Go.Proofs.Ythmllhihldbfoaa
open Go.RowKit Go.Cof

theorem hit_same {d : Pl.Cd} {x z : Co} {pa : Int} (h1 : x.s1 = z.s1) (h2 : Cof.get x.s2 (k2 d pa) = Cof.get z.s2 (k2 d pa)) : hit1 d z pa = hit1 d x pa ∧ hit2 d z pa = hit2 d x pa := by
  have e1 : hit1 d z pa = hit1 d x pa := by unfold hit1; rw [h1]
  refine ⟨e1, ?_⟩
  unfold hit2; rw [e1, h2]
theorem one_same {d : Pl.Cd} {x z : Co} {pa : Int} (h1 : x.s1 = z.s1) (hs : x.sp = z.sp) (ha : Alike d x.s2 z.s2) (hm : Pl.MachP d) (hl : x.s2.length = (d.co * 16).toNat) (h0 : 0 ≤ pa) (hin : pa / 256 % d.co ∈ C0 d) :
    (oneF d x pa).s1 = (oneF d z pa).s1 ∧ (oneF d x pa).sp = (oneF d z pa).sp ∧ Alike d (oneF d x pa).s2 (oneF d z pa).s2 := by
  obtain ⟨e2, ha2⟩ := ha.own hm hl h0 hin
  obtain ⟨g1, g2⟩ := hit_same h1 e2
  refine ⟨by show put1 d x.s1 pa = put1 d z.s1 pa; rw [h1], by show x.sp + _ = z.sp + _; rw [g1, g2, hs], ?_⟩
  show Alike d (if hit1 d x pa then x.s2 else put2 d x.s2 pa) (if hit1 d z pa then z.s2 else put2 d z.s2 pa)
  rw [g1]
  split
  · exact ha
  · exact ha2
theorem one_other {d : Pl.Cd} {s : List (List Int)} {z : Co} {pa : Int} (ha : Alike d s z.s2) (hm : Pl.MachP d) (hl : z.s2.length = (d.co * 16).toNat) (h0 : 0 ≤ pa) (hin : pa / 256 % d.co ∉ C0 d) : Alike d s (oneF d z pa).s2 := by
  show Alike d s (if hit1 d z pa then z.s2 else put2 d z.s2 pa)
  split
  · exact ha
  · exact ha.other hm hl h0 hin
theorem one_sp {d : Pl.Cd} (hc : Pl.CostP d.cs) (z : Co) (pa : Int) : z.sp ≤ (oneF d z pa).sp ∧ (oneF d z pa).sp ≤ z.sp + 65536 := by
  have := cstF_le hc (hit1 d z pa) (hit2 d z pa)
  show z.sp ≤ z.sp + _ ∧ z.sp + _ ≤ _
  omega
theorem fone (d : Pl.Cd) (x : Co) (pa : Int) : foldT d x [pa] = ⟨hit1 d x pa, hit2 d x pa, oneF d x pa⟩ := rfl
theorem touch1 (h : Nat) (d : Pl.Cd) (x : Co) (ts : List Tl.Tr) (hm : Pl.MachP d) (hc : Pl.CostP d.cs) (pa : Int) (h0 : 0 ≤ pa) (h1 : pa < d.fr * 256) (hs0 : 0 ≤ x.sp) (hs1 : x.sp ≤ 1000000) (A : Option Addr) (c : Nat) :
    Ctr Try.prog 8 [ptr h, .slice A 1 c] (fun g => rdS encW g A 1 [pa]) [isCo h d x ts] (fun v L => v = .tuple #[.agg #[.bool (hit1 d x pa), .bool (hit2 d x pa)], iV 0] ∧ L = [isCo h d (oneF d x pa) ts]) :=
  touch_spec h d x ts A 1 c [pa] hm hc (fun a ha => by rw [List.mem_singleton.1 ha]; exact ⟨h0, h1⟩) hs0 (by show x.sp + 1 * 65536 ≤ _; omega) (by decide)
structure Sx where
  x : Co
  z : Co
  ts : List Tl.Tr
  us : List Tl.Tr
def Rel (d : Pl.Cd) (w : Sx) : Prop := w.x.s1 = w.z.s1 ∧ w.x.sp = 0 ∧ w.z.sp = 0 ∧ Alike d w.x.s2 w.z.s2
set_option maxRecDepth 100000 in
set_option maxHeartbeats 16000000 in
theorem coreUnheard_walk (d : Pl.Cd) (y : Pl.Ly) (A : Option Addr) (m c : Nat) (l : List Int) (A' : Option Addr) (m' c' : Nat) (l' : List Int) (hd : d.In) (hf : y.Fit) (hdl : d.ps.length = y.pm) (hm0 : m ≤ 9223372036854775807) (hl : ∀ a ∈ l, 0 ≤ a ∧ a ≤ 18446744073709551615) (hm1 : m' ≤ 9223372036854775807) (hl' : ∀ a ∈ l', 0 ≤ a ∧ a ≤ 18446744073709551615) :
    FnC Try.prog 4 [Pl.cfV d y, .slice A m c, .slice A' m' c'] (fun h => Pl.CfR h d y ∧ rdS encW h A m l ∧ rdS encW h A' m' l') (.bool true) := by
  have hma := Pl.may_spec d y hd hf hdl
  by_cases hM : Pl.MayP d
  · have hmf := hM.all
    have hm := hmf.mach
    have hc := hmf.cost
    have hfr := hm.fr
    have hps := hm.ps
    have hnew := conew_ok d y hd hf hdl hM
    rw [decide_eq_true hM] at hma
    have hst := hc.st
    refine Ctr.intro Try.func4 rfl rfl (by decide +kernel) fun F hpre => ?_
    obtain ⟨hcf, r1, r2⟩ := hpre
    have hlen := r1.1
    have hlen2 := r2.1
    repeat' (first | (refine XL_id ?_; first | refine XL_nil ?_ | refine XL_guard_yes rfl rfl rfl ?_ | (refine XG_box ?_; (refine XL_box rfl (fun _ => rfl) (fun bx => ?_); refine XL_nB (by repeat' (first | exact .nil | apply NL.cons)) ?_)) | (refine XG_load ?_; first | refine XL_loadW tt_ok 0 rfl rfl rfl rfl rfl rfl ?_ | refine XL_loadW tt_ok 1 rfl rfl rfl rfl rfl rfl ?_ | refine XL_load tt_ok 2 rfl rfl rfl rfl rfl rfl ?_) | (refine XG_call ?_; first | (refine XL_op tt_ok rfl rfl ?_) | refine XL_fn awake_spec rfl rfl (fun _ _ _ => trivial) ?_ | refine XL_fn hma rfl rfl (fun g hg hL => hcf.le hg) ?_ | (refine XL_callK [] hnew rfl rfl (fun _ => rfl) (fun g hg hL => hcf.le hg) (fun u L hv => ?_); obtain ⟨hh, rfl, rfl⟩ := hv)) | (refine XL_op tt_ok rfl rfl ?_; try (refine XL_dec_f (by omega) ?_))) | (refine X_id ?_; first | refine X_block (id := 0) (hold ?_) | refine X_seq ?_ | (refine X_regionN (by repeat' (first | exact .nil | apply NL.cons)) ?_) | refine X_skip ?_ | refine X_cond_f rfl ?_) | (refine Y_id ?_; refine Y_then ?_))
    all_goals first
      | (exfalso; omega)
      | skip
    intro _
    rename_i ha _
    have hp0 : 0 < d.ps.length := by omega
    refine X_loopD2 [1, 2, 3, 7, 9, 11] (fun (i : Nat) (w : Sx) => [(12, .int .i64 i)]) (fun i w => [isCo hh d w.z w.us, isCo ha d w.x w.ts, blk bx (Pl.cfL d y) 28]) (fun i w => i ≤ m ∧ Rel d w) (fun i _ => m - i) 0 ⟨co0 d, co0 d, [], []⟩ rfl ⟨Nat.zero_le _, rfl, rfl, rfl, rfl, fun _ _ _ => rfl⟩ (by (repeat' (first | exact trivial | refine And.intro rfl ?_)); done) (fun h hs => hs) ?_
    intro i w hi
    obtain ⟨hi, hw1, hw2, hw3, hw4⟩ := hi
    refine X_fact 1 rfl (fun _ o => isCo_ok o) fun ⟨okx1, okx2⟩ => ?_
    refine X_fact 0 rfl (fun _ o => isCo_ok o) fun ⟨okz1, okz2⟩ => ?_
    repeat' ((refine X_id ?_; first | refine X_cutD (c := .region 11 _ _) [1, 2, 3, 7, 9, 11, 12] (fun (b : Bool) => [(57, .bool b)]) (fun _ => [isCo hh d w.z w.us, isCo ha d w.x w.ts, blk bx (Pl.cfL d y) 28]) (fun b => b = true → i < m ∧ i < 200) rfl (hold ?_) (fun b hb => hold ?_) | refine X_seq ?_))
    · intro _
      by_cases h1 : i < m
      · by_cases h2 : i < 200
        · repeat' (first | (refine XL_id ?_; first | refine XL_nil ?_ | refine XL_guard_yes rfl rfl rfl ?_ | (refine XL_op tt_ok rfl rfl ?_; try (refine XL_dec_t (by omega) ?_))) | (refine X_id ?_; (refine X_regionN (by repeat' (first | exact .nil | apply NL.cons)) ?_)))
          all_goals first
            | exact Y_again true fun _ _ hf hs => ⟨fun _ => ⟨h1, h2⟩, hf.sub (by (repeat' (first | exact trivial | refine And.intro rfl ?_)); done), hs⟩
            | (exfalso; omega)
            | skip
          
        · repeat' (first | (refine XL_id ?_; first | refine XL_nil ?_ | refine XL_guard_yes rfl rfl rfl ?_ | (refine XL_op tt_ok rfl rfl ?_; try (first | refine XL_dec_t (by omega) ?_ | refine XL_dec_f (by omega) ?_))) | (refine X_id ?_; (refine X_regionN (by repeat' (first | exact .nil | apply NL.cons)) ?_)))
          all_goals first
            | exact Y_again false fun _ _ hf hs => ⟨fun h => (by cases h), hf.sub (by (repeat' (first | exact trivial | refine And.intro rfl ?_)); done), hs⟩
            | (exfalso; omega)
            | skip
          
      · repeat' (first | (refine XL_id ?_; first | refine XL_nil ?_ | refine XL_guard_no rfl rfl rfl rfl rfl ?_ | (refine XL_op tt_ok rfl rfl ?_; try (refine XL_dec_f (by omega) ?_))) | (refine X_id ?_; (refine X_regionN (by repeat' (first | exact .nil | apply NL.cons)) ?_)))
        all_goals first
          | exact Y_again false fun _ _ hf hs => ⟨fun h => (by cases h), hf.sub (by (repeat' (first | exact trivial | refine And.intro rfl ?_)); done), hs⟩
          | (exfalso; omega)
          | skip
        
    · intro _
      refine Y_then ?_
      cases b with
      | true =>
        obtain ⟨hlt, h200⟩ := hb rfl
        obtain ⟨l0, l1⟩ := hl _ (get_mem' (l := l) (i := (i : Int)) (by omega) (by omega))
        have hpl : FnC Try.prog 12 [Pl.cfV d y, iV 0, uV (Cof.get l (i : Int))] (fun g => Pl.CfR g d y) (.tuple #[uV (plF d 0 (Cof.get l (i : Int))), .bool true]) := place_spec d y hdl hmf 0 hp0 _ l0 l1
        obtain ⟨p1, p2, p3⟩ := plF_rng hmf hp0 l0
        obtain ⟨pa, hpa⟩ : ∃ pa, plF d 0 (Cof.get l (i : Int)) = pa := ⟨_, rfl⟩
        rw [hpa] at hpl p1 p2 p3
        have hal := (hw4.own hm okx2.len p1 p3).1
        obtain ⟨g1, g2⟩ := hit_same (d := d) (x := w.x) (z := w.z) (pa := pa) hw1 hal
        obtain ⟨o1, o2, o3⟩ := one_same (d := d) (x := w.x) (z := w.z) (pa := pa) hw1 (by rw [hw2, hw3]) hw4 hm okx2.len p1 p3
        have kx := touch1 ha d w.x w.ts hm hc pa p1 p2 (by omega) (by omega)
        have kz := touch1 hh d w.z w.us hm hc pa p1 p2 (by omega) (by omega)
        rw [g1, g2] at kz
        have hsx := settle_spec ha d (oneF d w.x pa) w.ts
        have hsz := settle_spec hh d (oneF d w.z pa) w.us
        rw [← o2] at hsz
        obtain ⟨X1, hX1⟩ : ∃ X1, oneF d w.x pa = X1 := ⟨_, rfl⟩
        obtain ⟨Z1, hZ1⟩ : ∃ Z1, oneF d w.z pa = Z1 := ⟨_, rfl⟩
        rw [hX1] at kx hsx hsz o1 o2 o3
        rw [hZ1] at kz hsz o1 o2 o3
        obtain ⟨ya, hya⟩ : ∃ ya, hit1 d w.x pa = ya := ⟨_, rfl⟩
        obtain ⟨yb, hyb⟩ : ∃ yb, hit2 d w.x pa = yb := ⟨_, rfl⟩
        rw [hya, hyb] at kx kz
        obtain ⟨N, hN⟩ : ∃ N, X1.sp = N := ⟨_, rfl⟩
        rw [hN] at hsx hsz
        have hlx := leave_spec ha d ⟨X1.s1, X1.s2, 0⟩ w.ts hc
        have hlz := leave_spec hh d ⟨Z1.s1, Z1.s2, 0⟩ w.us hc
        repeat' (first | (refine XL_id ?_; first | refine XL_nil ?_ | refine XL_guard_yes rfl rfl rfl ?_ | (refine XL_neq (a := (⟨ya, yb⟩ : Ht)) (b := (⟨ya, yb⟩ : Ht)) eqHt rfl rfl rfl ?_; refine XL_dec_f (fun h => h rfl) ?_) | (refine XG_load ?_; first | refine XL_loadW tt_ok 2 rfl rfl rfl rfl rfl rfl ?_ | refine XL_loadW tt_ok 4 rfl rfl rfl rfl rfl rfl ?_ | refine XL_el tt_ok rfl (by assumption) rfl (by omega) (by omega) rfl rfl rfl rfl ?_) | (refine XG_idx ?_; refine XL_idx tt_ok rfl rfl rfl rfl rfl (by assumption) (by omega) (by omega) rfl ?_) | (refine XG_call ?_; first | refine XL_fn hpl rfl rfl (fun g hg hL => hcf.le (hFG.trans hg)) ?_ | refine XL_callE [2] (kx _ _) rfl rfl rfl (fun g hg hL => blk_rdS (blk_at 0 rfl hL) rfl rfl) ?_ | refine XL_callE [4] (kz _ _) rfl rfl rfl (fun g hg hL => blk_rdS (blk_at 0 rfl hL) rfl rfl) ?_ | refine XL_callE [4] hsx rfl rfl rfl (fun _ _ _ => trivial) ?_ | refine XL_callE [2] hsz rfl rfl rfl (fun _ _ _ => trivial) ?_ | refine XL_callE [1] hlx rfl rfl rfl (fun _ _ _ => trivial) ?_ | refine XL_callE [1] hlz rfl rfl rfl (fun _ _ _ => trivial) ?_) | (refine XG_alloc ?_; (refine XL_alloc tt_ok rfl rfl (fun _ => rfl) (fun b => ?_); refine XL_nB (by repeat' (first | exact .nil | apply NL.cons)) ?_)) | (refine XG_lit ?_; (refine XL_lit tt_ok rfl rfl rfl rfl rfl rfl rfl rfl rfl (fun _ => rfl) (fun b => ?_); refine XL_nB (by repeat' (first | exact .nil | apply NL.cons)) ?_)) | (refine XG_store ?_; (refine XL_storeW tt_ok 0 rfl rfl rfl rfl rfl rfl rfl ?_; refine XL_nK 0 rfl (by repeat' (first | exact .nil | apply NL.cons)) ?_)) | (refine XL_op tt_ok rfl rfl ?_; try (first | refine XL_int (wrap_i64 (by omega) (by omega)) ?_ | refine XL_int (rem_pos (by omega)) ?_ | refine XL_dec_f (by omega) ?_ | refine XL_dec (fun _ => ?_) (fun _ => ?_)))) | (refine XD_id ?_; first | (refine XD_thaw thaw ?_; refine XD_nil ?_) | (refine XD_id ?_; (first | (refine XD_uL rfl ?_; first | refine XD_s rfl rfl rfl (XV_loadW tt_ok rfl (blk_at 0 rfl hM) rfl rfl rfl) rfl ?_ | refine XD_s rfl rfl rfl (XV_el tt_ok rfl (rdS.le (by assumption) hFG) rfl (by omega) (by omega) rfl rfl rfl) rfl ?_) | (refine XD_uI rfl ?_; refine XD_s rfl rfl rfl (XV_idx tt_ok rfl rfl rfl rfl rfl (rdS.le (by assumption) hFG) (by omega) (by omega)) rfl ?_) | (refine XD_u rfl rfl ?_; refine XD_s rfl rfl rfl (XV_op tt_ok rfl) rfl ?_))) | refine XD_m rfl rfl ?_) | (refine X_id ?_; first | (refine X_drawS (id := 13) [0, 1, 2, 3, 4, 5, 6, 7, 8, 9, 10] (fun | 5 => .m | _ => .s) 8 (by (repeat apply Split.blk); apply Split.keep; (repeat apply Split.blk); apply Split.keep; repeat' (first | exact Split.nil | apply Split.blk)) mixed (by decide +kernel) ?_; intro G hFG hM thaw; show XD _ _ _ _ _ _ [0, 1, 2, 3, 4, 5, 6, 7, 8, 9, 10] _ _ _) | refine X_block (id := 2) (hold ?_) | refine X_seq ?_ | (refine X_regionN (by repeat' (first | exact .nil | apply NL.cons)) ?_) | refine X_skip ?_ | refine X_exit ?_ | refine X_block ?_ | refine X_cond_t rfl ?_ | refine X_cond_f rfl ?_) | (refine Y_id ?_; first | refine Y_then ?_ | refine Y_then_exit ?_ | refine Y_block_hit ?_ | refine Y_m ?_))
        all_goals first
          | exact Y_again (i + 1, ⟨⟨X1.s1, X1.s2, 0⟩, ⟨Z1.s1, Z1.s2, 0⟩, w.ts, w.us⟩) fun _ _ hf hs => ⟨⟨hlt, o1, rfl, rfl, o3⟩, by show m - (i + 1) < m - i; omega, hf.sub (by (repeat' (first | exact trivial | refine And.intro rfl ?_)); done), hs.imp fun g hg => stars_only [0, 0, 4] rfl g hg⟩
          | (exfalso; omega)
          | skip
        intro _
        refine X_loopD3 [1, 2, 3, 7, 9, 11, 12] (fun (k : Nat) (z : Co) (us : List Tl.Tr) => [(23, .int .i64 k)]) (fun k z us => [isCo hh d z us, isCo ha d ⟨List.replicate d.ls.toNat [], X1.s2, 0⟩ [], blk bx (Pl.cfL d y) 28]) (fun k z _ => k ≤ 4 ∧ 0 ≤ z.sp ∧ z.sp ≤ k * 65536 ∧ Alike d X1.s2 z.s2) (fun k _ _ => 4 - k) 0 ⟨List.replicate d.ls.toNat [], Z1.s2, 0⟩ [] rfl ⟨Nat.zero_le _, Int.le_refl _, Int.le_refl _, o3⟩ (by (repeat' (first | exact trivial | refine And.intro rfl ?_)); done) (stars_only [0, 0, 4] rfl) ?_
        intro k z us hk
        obtain ⟨hk4, hz0, hz1, hza⟩ := hk
        refine X_fact 0 rfl (fun _ o => isCo_ok o) fun ⟨okw1, okw2⟩ => ?_
        repeat' ((refine X_id ?_; first | refine X_cutD (c := .region 26 _ _) [1, 2, 3, 7, 9, 11, 12, 23] (fun (b : Bool) => [(135, .bool b)]) (fun _ => [isCo hh d z us, isCo ha d ⟨List.replicate d.ls.toNat [], X1.s2, 0⟩ [], blk bx (Pl.cfL d y) 28]) (fun b => b = true → k < 4 ∧ 4 * i + k < m' ∧ 1 < y.pm) rfl (hold ?_) (fun b hb => hold ?_) | refine X_seq ?_))
        · intro _
          by_cases h1 : k < 4
          · by_cases h2 : 4 * i + k < m'
            · by_cases h3 : 1 < y.pm
              · repeat' (first | (refine XL_id ?_; first | refine XL_nil ?_ | refine XL_guard_yes rfl rfl rfl ?_ | (refine XL_op tt_ok rfl rfl ?_; try (first | refine XL_int (wrap_i64 (by omega) (by omega)) ?_ | refine XL_dec_t (by omega) ?_))) | (refine X_id ?_; (refine X_regionN (by repeat' (first | exact .nil | apply NL.cons)) ?_)))
                all_goals first
                  | exact Y_again true fun _ _ hf hs => ⟨fun _ => ⟨h1, h2, h3⟩, hf.sub (by (repeat' (first | exact trivial | refine And.intro rfl ?_)); done), hs⟩
                  | (exfalso; omega)
                  | skip
                
              · repeat' (first | (refine XL_id ?_; first | refine XL_nil ?_ | refine XL_guard_yes rfl rfl rfl ?_ | (refine XL_op tt_ok rfl rfl ?_; try (first | refine XL_int (wrap_i64 (by omega) (by omega)) ?_ | refine XL_dec_t (by omega) ?_ | refine XL_dec_f (by omega) ?_))) | (refine X_id ?_; (refine X_regionN (by repeat' (first | exact .nil | apply NL.cons)) ?_)))
                all_goals first
                  | exact Y_again false fun _ _ hf hs => ⟨fun h => (by cases h), hf.sub (by (repeat' (first | exact trivial | refine And.intro rfl ?_)); done), hs⟩
                  | (exfalso; omega)
                  | skip
                
            · repeat' (first | (refine XL_id ?_; first | refine XL_nil ?_ | refine XL_guard_yes rfl rfl rfl ?_ | refine XL_guard_no rfl rfl rfl rfl rfl ?_ | (refine XL_op tt_ok rfl rfl ?_; try (first | refine XL_int (wrap_i64 (by omega) (by omega)) ?_ | refine XL_dec_t (by omega) ?_ | refine XL_dec_f (by omega) ?_))) | (refine X_id ?_; (refine X_regionN (by repeat' (first | exact .nil | apply NL.cons)) ?_)))
              all_goals first
                | exact Y_again false fun _ _ hf hs => ⟨fun h => (by cases h), hf.sub (by (repeat' (first | exact trivial | refine And.intro rfl ?_)); done), hs⟩
                | (exfalso; omega)
                | skip
              
          · repeat' (first | (refine XL_id ?_; first | refine XL_nil ?_ | refine XL_guard_no rfl rfl rfl rfl rfl ?_ | (refine XL_op tt_ok rfl rfl ?_; try (refine XL_dec_f (by omega) ?_))) | (refine X_id ?_; (refine X_regionN (by repeat' (first | exact .nil | apply NL.cons)) ?_)))
            all_goals first
              | exact Y_again false fun _ _ hf hs => ⟨fun h => (by cases h), hf.sub (by (repeat' (first | exact trivial | refine And.intro rfl ?_)); done), hs⟩
              | (exfalso; omega)
              | skip
            
        · intro _
          refine Y_then ?_
          cases b with
          | true =>
            obtain ⟨hk3, hik, hpm⟩ := hb rfl
            obtain ⟨v0, v1⟩ := hl' _ (get_mem' (l := l') (i := 4 * (i : Int) + k) (by omega) (by omega))
            have hwi := within_spec (Cof.get l' (4 * (i : Int) + k) % 64) ((y.pm : Int) - 1) (by omega) (by omega) (by omega) (by omega)
            have w1 := Int.emod_nonneg (Cof.get l' (4 * (i : Int) + k) % 64) (show (y.pm : Int) - 1 ≠ 0 by omega)
            have w2 := Int.emod_lt_of_pos (Cof.get l' (4 * (i : Int) + k) % 64) (show (0 : Int) < (y.pm : Int) - 1 by omega)
            obtain ⟨R, hR⟩ : ∃ R, Cof.get l' (4 * (i : Int) + k) % 64 % ((y.pm : Int) - 1) = R := ⟨_, rfl⟩
            rw [hR] at hwi w1 w2
            obtain ⟨q, hq⟩ : ∃ q : Nat, (q : Int) = 1 + R := ⟨(1 + R).toNat, by omega⟩
            have hplq := place_spec d y hdl hmf q (by omega) (Cof.get l' (4 * (i : Int) + k) / 64) (by omega) (by omega)
            rw [hq] at hplq
            obtain ⟨p1', p2', p3'⟩ := plF_rng hmf (p := q) (by omega) (at' := Cof.get l' (4 * (i : Int) + k) / 64) (by omega)
            obtain ⟨pb, hpb⟩ : ∃ pb, plF d q (Cof.get l' (4 * (i : Int) + k) / 64) = pb := ⟨_, rfl⟩
            rw [hpb] at hplq p1' p2' p3'
            have hno := apart hmf (p := q) (by omega) (by omega) p3'
            have hal2 := one_other hza hm okw2.len p1' hno
            have hsp2 := one_sp hc z pb
            have kz2 := touch1 hh d z us hm hc pb p1' p2' hz0 (by omega)
            obtain ⟨z1, hz1e⟩ : ∃ z1, oneF d z pb = z1 := ⟨_, rfl⟩
            rw [hz1e] at kz2 hal2 hsp2
            repeat' (first | (refine XL_id ?_; first | refine XL_nil ?_ | (refine XG_call ?_; first | refine XL_fn hwi rfl rfl (fun _ _ _ => trivial) ?_ | refine XL_fn hplq rfl rfl (fun g hg hL => hcf.le (hFG.trans hg)) ?_ | refine XL_callE [1] (kz2 _ _) rfl rfl rfl (fun g hg hL => blk_rdS (blk_at 0 rfl hL) rfl rfl) ?_) | (refine XG_lit ?_; (refine XL_lit tt_ok rfl rfl rfl rfl rfl rfl rfl rfl rfl (fun _ => rfl) (fun b => ?_); refine XL_nB (by repeat' (first | exact .nil | apply NL.cons)) ?_)) | (refine XL_op tt_ok rfl rfl ?_)) | (refine XD_id ?_; first | (refine XD_thaw thaw ?_; refine XD_nil ?_) | (refine XD_id ?_; (first | (refine XD_uL rfl ?_; first | refine XD_s rfl rfl rfl (XV_loadW tt_ok rfl (blk_at 0 rfl hM) rfl rfl rfl) rfl ?_ | refine XD_s rfl rfl rfl (XV_el tt_ok rfl (rdS.le (by assumption) hFG) rfl (by omega) (by omega) rfl rfl rfl) rfl ?_) | (refine XD_uI rfl ?_; refine XD_s rfl rfl rfl (XV_idx tt_ok rfl rfl rfl rfl rfl (rdS.le (by assumption) hFG) (by omega) (by omega)) rfl ?_) | (refine XD_u rfl rfl ?_; refine XD_s rfl rfl rfl (XV_op tt_ok rfl) rfl ?_)); try (first | refine XD_int (wrap_i64 (by omega) (by omega)) ?_ | refine XD_int (quo_u64 (by omega) (by omega) (by omega)) ?_ | refine XD_int (rem_pos (by omega)) ?_)) | refine XD_m rfl rfl ?_) | (refine X_id ?_; first | (refine X_drawS (id := 28) [0, 1, 2, 3, 4, 5, 6, 7, 8, 9, 10, 11, 14, 15, 16, 17, 18, 19, 20, 21, 12, 13, 22, 23, 24, 25, 26, 27] (fun | 12 => .m | 22 => .m | _ => .s) 8 (by (repeat apply Split.blk); apply Split.keep; (repeat apply Split.blk); apply Split.keep; repeat' (first | exact Split.nil | apply Split.blk)) mixed (by decide +kernel) ?_; intro G hFG hM thaw; show XD _ _ _ _ _ _ [0, 1, 2, 3, 4, 5, 6, 7, 8, 9, 10, 11, 14, 15, 16, 17, 18, 19, 20, 21, 12, 13, 22, 23, 24, 25, 26, 27] _ _ _) | refine X_region (id := 32) (hold ?_) | refine X_seq ?_ | (refine X_regionN (by repeat' (first | exact .nil | apply NL.cons)) ?_) | refine X_skip ?_ | refine X_block ?_ | refine X_cond_t rfl ?_ | refine X_cond_f rfl ?_) | (refine Y_id ?_; first | refine Y_then ?_ | refine Y_m ?_))
            all_goals first
              | (exfalso; omega)
              | skip
            intro _
            refine XL_openp (φ := fun _ => True) 0 rfl (fun _ ⟨y5, hh5⟩ => ⟨y5, trivial, hh5⟩) fun y5 _ => ?_
            repeat' (first | (refine XL_id ?_; first | refine XL_nil ?_ | (refine XG_load ?_; refine XL_load tt_ok 0 rfl rfl rfl rfl rfl rfl ?_) | (refine XG_build ?_; (refine XL_build tt_ok rfl rfl rfl rfl rfl rfl rfl ?_; refine XL_aggN (by repeat' (first | exact .nil | apply NL.cons)) ?_)) | (refine XG_call ?_; refine XL_callE [3] (Tl.fill_is y5.pt d.tl us ⟨17, pb / 256, pb / 256, true, false, false⟩) rfl rfl rfl (fun _ _ _ => trivial) ?_) | (refine XL_op tt_ok rfl rfl ?_; try (first | refine XL_int (wrap_i64 (by omega) (by omega)) ?_ | refine XL_int (quo_u64 (by omega) (by omega) (by omega)) ?_))) | (refine X_id ?_; (refine X_regionN (by repeat' (first | exact .nil | apply NL.cons)) ?_)) | (refine Y_id ?_; first | refine Y_then ?_ | refine Y_block_normal ?_))
            all_goals first
              | exact Y_again (k + 1, z1, _) fun _ _ hf hs => ⟨⟨by show k + 1 ≤ 4; omega, by show 0 ≤ z1.sp; omega, by show z1.sp ≤ ((k + 1 : Nat) : Int) * 65536; omega, hal2⟩, by show 4 - (k + 1) < 4 - k; omega, hf.sub (by (repeat' (first | exact trivial | refine And.intro rfl ?_)); done), hs.imp fun g hg => stars_shut (A := isCo hh d z1 _) (fun g hg => ⟨y5, hg⟩) (stars_only [1, 1, 1, 0, 1, 1] rfl g hg)⟩
              | (exfalso; omega)
              | skip
            
          | false =>
            have hsz3 := settle_spec hh d z us
            have hlz3 := leave_spec hh d ⟨z.s1, z.s2, 0⟩ us hc
            repeat' (first | (refine XL_id ?_; first | refine XL_nil ?_ | (refine XG_call ?_; first | refine XL_callE [0] hsz3 rfl rfl rfl (fun _ _ _ => trivial) ?_ | refine XL_callE [0] hlz3 rfl rfl rfl (fun _ _ _ => trivial) ?_) | (refine XL_op tt_ok rfl rfl ?_; try (refine XL_int (wrap_i64 (by omega) (by omega)) ?_))) | (refine X_id ?_; first | refine X_seq ?_ | (refine X_regionN (by repeat' (first | exact .nil | apply NL.cons)) ?_) | refine X_exit ?_ | refine X_cond_f rfl ?_) | (refine Y_id ?_; first | refine Y_then ?_ | refine Y_then_exit ?_ | refine Y_block_hit ?_ | refine Y_block_normal ?_))
            all_goals first
              | exact Y_again (i + 1, ⟨⟨List.replicate d.ls.toNat [], X1.s2, 0⟩, ⟨List.replicate d.ls.toNat [], z.s2, 0⟩, [], []⟩) fun _ _ hf hs => ⟨⟨hlt, rfl, rfl, rfl, hza⟩, by show m - (i + 1) < m - i; omega, hf.sub (by (repeat' (first | exact trivial | refine And.intro rfl ?_)); done), hs⟩
              | (exfalso; omega)
              | skip
            
      | false =>
        repeat' (first | (refine XL_id ?_; first | refine XL_nil ?_ | (refine XL_op tt_ok rfl rfl ?_; try (refine XL_dec_t (by omega) ?_))) | (refine X_id ?_; first | refine X_seq ?_ | (refine X_regionN (by repeat' (first | exact .nil | apply NL.cons)) ?_) | refine X_ret ?_ | refine X_exit ?_ | refine X_cond_f rfl ?_) | (refine Y_id ?_; first | refine Y_then ?_ | refine Y_then_exit ?_ | refine Y_block_hit ?_))
        all_goals first
          | exact Y_fn1 rfl rfl rfl
          | (exfalso; omega)
          | skip
        
  · rw [decide_eq_false hM] at hma
    refine Ctr.intro Try.func4 rfl rfl (by decide +kernel) fun F hpre => ?_
    obtain ⟨hcf, r1, r2⟩ := hpre
    repeat' (first | (refine XL_id ?_; first | refine XL_nil ?_ | (refine XG_box ?_; (refine XL_box rfl (fun _ => rfl) (fun bx => ?_); refine XL_nB (by repeat' (first | exact .nil | apply NL.cons)) ?_)) | (refine XG_load ?_; refine XL_loadW tt_ok 0 rfl rfl rfl rfl rfl rfl ?_) | (refine XG_call ?_; first | refine XL_fn awake_spec rfl rfl (fun _ _ _ => trivial) ?_ | refine XL_fn hma rfl rfl (fun g hg hL => hcf.le hg) ?_) | (refine XL_op tt_ok rfl rfl ?_)) | (refine X_id ?_; first | refine X_seq ?_ | (refine X_regionN (by repeat' (first | exact .nil | apply NL.cons)) ?_) | refine X_skip ?_ | refine X_ret ?_ | refine X_cond_t rfl ?_ | refine X_cond_f rfl ?_) | (refine Y_id ?_; first | refine Y_then ?_ | refine Y_then_ret ?_))
    all_goals first
      | exact Y_fn1 rfl rfl rfl
      | (exfalso; omega)
      | skip
    
end Go.Proofs.Ythmllhihldbfoaa
