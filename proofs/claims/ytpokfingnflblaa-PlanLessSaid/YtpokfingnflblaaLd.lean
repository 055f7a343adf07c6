/- PlanLess: less may be, too. -/
import Derived.Test.YtpokfingnflblaaPc
import Derived.Test.YtpokfingnflblaaSe
set_option linter.unusedVariables false
namespace Go.Proofs.Ytpokfingnflblaa
open Go.RowKit Go.Cof

theorem isCf_flat {d : Cd} {y : Ly} {L : List HProp} {h : Hp} (hs : stars (isCf d y :: L) h) : stars ([own encN y.tA y.tm y.tc d.tn, own encPt y.pA y.pm y.pc y.ps, allC y.ps] ++ L) h := stars_flat (stars_imp (fun _ o => o.2) hs)
theorem isCf_eq {d : Cd} {y : Ly} {h : Hp} (hs : isCf d y h) : y.ps.map Pt.d = d.ps ∧ y.ps.length = y.pm := ⟨hs.1.1, by have := (isCf_R hs).len; rw [← hs.1.1, List.length_map] at this; exact this⟩
theorem isCf_all {d : Cd} {y : Ly} {h : Hp} (hs : isCf d y h) : y.Fit ∧ d.ps.length = y.pm ∧ y.ps.map Pt.d = d.ps ∧ y.ps.length = y.pm := ⟨(isCf_fit hs).1, (isCf_fit hs).2, isCf_eq hs⟩
theorem map_set_get {α β : Type} [Inhabited α] (f : α → β) (l : List α) (P : Nat) (q : α) (h : P < l.length → f q = f (Cof.get l (P : Int))) : (l.set P q).map f = l.map f := by
  rw [List.map_set]
  by_cases hP : P < l.length
  · rw [h hP, get_getElem hP]
    refine List.ext_getElem (by simp) fun i h1 h2 => ?_
    rw [List.getElem_set]
    split
    · rename_i e; subst e; simp
    · rfl
  · rw [List.set_eq_of_length_le (by rw [List.length_map]; omega)]
theorem allC_set {l : List Pt} {P : Nat} {x : Pd} (hx : x.xs = (Cof.get l (P : Int)).d.xs) : allC (l.set P ⟨(Cof.get l (P : Int)).A, (Cof.get l (P : Int)).m, (Cof.get l (P : Int)).c, x⟩) = allC l := by
  unfold allC
  rw [map_set_get ownC l P _ (fun _ => by unfold ownC; rw [hx])]
theorem map_dat {l : List Pt} {P : Nat} (hP : P < l.length) : Cof.get (l.map Pt.d) (P : Int) = (Cof.get l (P : Int)).d := by
  rw [get_getElem (by rw [List.length_map]; exact hP), List.getElem_map, get_getElem hP]
theorem isCf_back {d : Cd} {y : Ly} {l : List Pt} (h1 : y.ps.map Pt.d = d.ps) (h2 : y.Fit) (h3 : allC y.ps = allC l) : ∀ h, stars [own encN y.tA y.tm y.tc d.tn, own encPt y.pA y.pm y.pc y.ps, allC l] h → isCf d y h := fun h hs => ⟨⟨h1, h2⟩, by rw [h3]; exact hs⟩
abbrev ptZ (q : Pt) (z : Pd) : List Value := [.slice q.A q.m q.c, iV z.o, iV z.u, iV z.t, iV z.s, iV z.r, iV z.d, iV z.k]
set_option maxHeartbeats 16000000 in
theorem planLess_walk (d : Cd) (y : Ly) (hd : d.In) (hf : y.Fit) (p : Int) (hp : i64In p) (B : Option Addr) (bm bc : Nat) (bys : List Int) (hbm : bm ≤ 9223372036854775807) (hby : ∀ n ∈ bys, i64In n) : FnC Try.prog 4 [cfV d y, iV p, .slice B bm bc] (fun h => CfR h d y ∧ rdS encN h B bm bys) (.bool true) := by
  refine Ctr.intro Try.func4 rfl rfl (by decide +kernel) fun F hpre => ?_
  obtain ⟨hpre, hrb⟩ : CfR F.heap d y ∧ rdS encN F.heap B bm bys := hpre
  have hl := hpre.len
  have hmay := may_spec d y hd hf hl
  have hfp := hf.p
  have hbl := hrb.1
  by_cases hm : MayP d
  · rw [decide_eq_true hm] at hmay
    have ha := hm.all
    have hps := ha.mach.ps
    have hm0 := Int.emod_nonneg p (show (d.ps.length : Int) ≠ 0 by omega)
    have hm1 := Int.emod_lt_of_pos p (show 0 < (d.ps.length : Int) by omega)
    obtain ⟨P, hP⟩ : ∃ P : Nat, p % (d.ps.length : Int) = P := ⟨(p % (d.ps.length : Int)).toNat, by omega⟩
    have hPl : P < d.ps.length := by omega
    have hwi := within_spec p (d.ps.length : Int) hp.1 hp.2 (by omega) (by omega)
    rw [hP, hl] at hwi
    have hnn := (ha.part P hPl).2.1
    have hth : thE d (P : Int) = 0 := by unfold thE; rw [if_pos hm, if_pos (by omega)]
    have hsha : FnC Try.prog 16 [cfV d y, iV P] (fun h => CfR h d y) (.tuple #[shV (shF (Cof.get d.ps (P : Int))), iV 0]) := by
      have h := Shape_spec d y hd hf hl (P : Int)
      rw [hth, show shpE d (P : Int) = shF (Cof.get d.ps (P : Int)) from if_pos hth] at h
      exact h
    repeat' (first | (refine XL_id ?_; first | refine XL_nil ?_ | (refine XG_load ?_; first | refine XL_loadW tt_ok 0 rfl rfl rfl rfl rfl rfl ?_ | refine XL_load tt_ok 0 rfl rfl rfl rfl rfl rfl ?_ | refine XL_load tt_ok 4 rfl rfl rfl rfl rfl rfl ?_ | refine XL_eloW tt_ok 2 rfl rfl rfl (by omega) (by omega) rfl rfl rfl rfl ?_) | (refine XG_idx ?_; refine XL_idxo tt_ok 2 rfl rfl rfl rfl rfl rfl (by omega) (by omega) rfl ?_) | (refine XG_box ?_; (refine XL_box rfl (fun _ => rfl) (fun _ => ?_); refine XL_nB (by repeat' (first | exact .nil | apply NL.cons)) ?_)) | (refine XG_call ?_; first | (refine XL_op tt_ok rfl rfl ?_) | (refine XL_callK [] (copy_spec d y hf) rfl rfl (fun _ => rfl) (fun g hg hL => hpre.le hg) (fun u L hv => ?_); obtain ⟨y2, rfl, rfl⟩ := hv; refine XL_fact 0 rfl (fun h hs => isCf_all hs) (fun hfit => ?_); obtain ⟨hf2, hl2, heq2, hln2⟩ := hfit; obtain ⟨tA, tm, tc, pA, pm, pc, qs⟩ := y2; refine XL_mem (fun h hs => isCf_flat hs) ?_) | refine XL_fn hwi rfl rfl (fun _ _ _ => trivial) ?_ | refine XL_fn awake_spec rfl rfl (fun _ _ _ => trivial) ?_ | refine XL_fn hmay rfl rfl (fun g hg hL => hpre.le hg) ?_) | (refine XG_alloc ?_; (refine XL_alloc tt_ok rfl rfl (fun _ => rfl) (fun b => ?_); refine XL_nB (by repeat' (first | exact .nil | apply NL.cons)) ?_)) | (refine XG_store ?_; (refine XL_storeW tt_ok 0 rfl rfl rfl rfl rfl rfl rfl ?_; refine XL_nK 0 rfl (by repeat' (first | exact .nil | apply NL.cons)) ?_)) | (refine XL_op tt_ok rfl rfl ?_)) | (refine X_id ?_; first | refine X_block (id := 0) (hold ?_) | refine X_seq ?_ | (refine X_regionN (by repeat' (first | exact .nil | apply NL.cons)) ?_) | refine X_skip ?_ | refine X_cond_f rfl ?_) | (refine Y_id ?_; refine Y_then ?_))
    intro _
    have heq2 : qs.map Pt.d = d.ps := heq2
    have hln2 : qs.length = pm := hln2
    have hl2 : d.ps.length = pm := hl2
    have hdat : (Cof.get qs (P : Int)).d = Cof.get d.ps (P : Int) := by rw [← heq2, map_dat (by omega)]
    have hxin := hd.ps _ (get_mem' (l := d.ps) (i := (P : Int)) (by omega) (by omega))
    refine X_fact 3 rfl (fun _ o => own_some o (by show 0 < pm; omega)) fun hq => ?_
    obtain ⟨q, rfl⟩ := hq
    refine X_loopD2 [1, 2, 3, 7, 8] (fun (i : Nat) (z : Pd) => [(9, .int .i64 i)]) (fun _ z => [blk _ (ptZ (Cof.get qs (P : Int)) z) 41, blk _ (cfL d ⟨tA, tm, tc, some ⟨q, 0, none⟩, pm, pc, qs⟩) 28, own encN tA tm tc d.tn, own encPt (some ⟨q, 0, none⟩) pm pc qs, allC qs, _]) (fun i z => i ≤ bm ∧ Less (Cof.get d.ps (P : Int)) z) (fun i _ => bm - i) 0 (Cof.get qs (P : Int)).d rfl ⟨Nat.zero_le _, by rw [hdat]; exact Less.rfl' hnn⟩ (by (repeat' (first | exact trivial | refine And.intro rfl ?_)); done) (stars_only [0, 0, 0, 0, 0, 0] rfl) ?_
    intro i z hi
    obtain ⟨hi, hz⟩ := hi
    have hnz := hz.nine hnn
    by_cases hlt : i < bm ∧ i < 6
    · have hbi := hby _ (get_mem' (l := bys) (i := (i : Int)) (by omega) (by omega))
      have hw5 := within_spec (Cof.get bys (i : Int)) 5 hbi.1 hbi.2 (by omega) (by omega)
      obtain ⟨N5, hN5⟩ : ∃ N5, Cof.get bys (i : Int) % 5 = N5 := ⟨_, rfl⟩
      have hr5 : 0 ≤ N5 ∧ N5 < 5 := by omega
      rw [hN5] at hw5
      have a1 := hz.u; have a2 := hz.t; have a3 := hz.s; have a4 := hz.r; have a5 := hz.d; have a6 := hz.k
      have b1 := hnn.u; have b2 := hnn.t; have b3 := hnn.s; have b4 := hnn.r; have b5 := hnn.d; have b6 := hnn.k
      repeat' (first | (refine XL_id ?_; first | refine XL_nil ?_ | refine XL_guard_yes rfl rfl rfl ?_ | (refine XG_load ?_; first | refine XL_load tt_ok 0 rfl rfl rfl rfl rfl rfl ?_ | refine XL_el tt_ok rfl (by assumption) rfl (by omega) (by omega) rfl rfl rfl rfl ?_) | (refine XG_idx ?_; refine XL_idx tt_ok rfl rfl rfl rfl rfl (by assumption) (by omega) (by omega) rfl ?_) | (refine XG_call ?_; first | (refine XL_op tt_ok rfl rfl ?_) | refine XL_fn hw5 rfl rfl (fun _ _ _ => trivial) ?_) | (refine XG_store ?_; (refine XL_store tt_ok 0 rfl rfl rfl rfl rfl rfl rfl rfl ?_; refine XL_nK 0 rfl (by repeat' (first | exact .nil | apply NL.cons)) ?_)) | (refine XL_op tt_ok rfl rfl ?_; try (first | refine XL_int (wrap_i64 (by omega) (by omega)) ?_ | refine XL_dec_t (by omega) ?_ | refine XL_dec (fun _ => ?_) (fun _ => ?_)))) | (refine X_id ?_; first | refine X_seq ?_ | (refine X_regionN (by repeat' (first | exact .nil | apply NL.cons)) ?_) | refine X_skip ?_ | refine X_block ?_ | refine X_cond_t rfl ?_ | refine X_cond_f rfl ?_) | (refine Y_id ?_; first | refine Y_then ?_ | refine Y_block_normal ?_))
      all_goals first
        | exact Y_again (i + 1, { z with u := mx (z.u - N5) 2 }) fun _ _ hf hs => ⟨⟨by show i + 1 ≤ bm; omega, hz.to_u hr5.1⟩, by show bm - (i + 1) < bm - i; omega, hf.sub (by (repeat' (first | exact trivial | refine And.intro rfl ?_)); done), hs⟩
        | exact Y_again (i + 1, { z with t := mx (z.t - N5) 4 }) fun _ _ hf hs => ⟨⟨by show i + 1 ≤ bm; omega, hz.to_t hr5.1⟩, by show bm - (i + 1) < bm - i; omega, hf.sub (by (repeat' (first | exact trivial | refine And.intro rfl ?_)); done), hs⟩
        | exact Y_again (i + 1, { z with s := mx (z.s - N5) 1 }) fun _ _ hf hs => ⟨⟨by show i + 1 ≤ bm; omega, hz.to_s hr5.1⟩, by show bm - (i + 1) < bm - i; omega, hf.sub (by (repeat' (first | exact trivial | refine And.intro rfl ?_)); done), hs⟩
        | exact Y_again (i + 1, { z with r := mx (z.r - N5) 1 }) fun _ _ hf hs => ⟨⟨by show i + 1 ≤ bm; omega, hz.to_r hr5.1⟩, by show bm - (i + 1) < bm - i; omega, hf.sub (by (repeat' (first | exact trivial | refine And.intro rfl ?_)); done), hs⟩
        | exact Y_again (i + 1, { z with d := mx (z.d - N5) 1 }) fun _ _ hf hs => ⟨⟨by show i + 1 ≤ bm; omega, hz.to_d hr5.1⟩, by show bm - (i + 1) < bm - i; omega, hf.sub (by (repeat' (first | exact trivial | refine And.intro rfl ?_)); done), hs⟩
        | exact Y_again (i + 1, { z with k := mx (z.k - N5) 1 }) fun _ _ hf hs => ⟨⟨by show i + 1 ≤ bm; omega, hz.to_k hr5.1⟩, by show bm - (i + 1) < bm - i; omega, hf.sub (by (repeat' (first | exact trivial | refine And.intro rfl ?_)); done), hs⟩
        | skip
      
    · obtain ⟨Z, hZ⟩ : ∃ Z : Pt, Z = ⟨(Cof.get qs (P : Int)).A, (Cof.get qs (P : Int)).m, (Cof.get qs (P : Int)).c, z⟩ := ⟨_, rfl⟩
      have hz2 : lessD d P z = lessD d P z := rfl
      have hdin := less_in hd hPl hz
      have hmd := less_mayF ha hPl hz
      have hmay2 := hmd.may
      have hAl : allC (qs.set P ⟨(Cof.get qs (P : Int)).A, (Cof.get qs (P : Int)).m, (Cof.get qs (P : Int)).c, z⟩) = allC qs := allC_set (by rw [hz.xs, hdat])
      have hf3 : (Ly.mk tA tm tc (some ⟨q, 0, none⟩) pm pc (qs.set P ⟨(Cof.get qs (P : Int)).A, (Cof.get qs (P : Int)).m, (Cof.get qs (P : Int)).c, z⟩)).Fit := ⟨hf2.t, hf2.p, fun w hw => by
        rcases List.mem_or_eq_of_mem_set hw with hw | rfl
        · exact hf2.x w hw
        · exact hf2.x (Cof.get qs (P : Int)) (get_mem' (l := qs) (i := (P : Int)) (by omega) (by omega)), hf2.cap⟩
      have hl3 : (lessD d P z).ps.length = pm := by rw [less_len]; exact hl2
      have heq3 : (qs.set P ⟨(Cof.get qs (P : Int)).A, (Cof.get qs (P : Int)).m, (Cof.get qs (P : Int)).c, z⟩).map Pt.d = (lessD d P z).ps := by rw [List.map_set, heq2]; rfl
      have hzz : Cof.get (lessD d P z).ps (P : Int) = z := by rw [less_get hPl, if_pos rfl]
      have hth3 : thE (lessD d P z) (P : Int) = 0 := by unfold thE; rw [if_pos hmay2, if_pos (by rw [less_len]; omega)]
      have hsha3 : ∀ y3 : Ly, y3.Fit → (lessD d P z).ps.length = y3.pm → FnC Try.prog 16 [cfV (lessD d P z) y3, iV P] (fun h => CfR h (lessD d P z) y3) (.tuple #[shV (shF z), iV 0]) := fun y3 h1 h2 => by
        have h := Shape_spec (lessD d P z) y3 hdin h1 h2 (P : Int)
        rw [hth3, show shpE (lessD d P z) (P : Int) = shF (Cof.get (lessD d P z).ps (P : Int)) from if_pos hth3, hzz] at h
        exact h
      have hmay3 : ∀ y3 : Ly, y3.Fit → (lessD d P z).ps.length = y3.pm → FnC Try.prog 12 [cfV (lessD d P z) y3] (fun h => CfR h (lessD d P z) y3) (.bool true) := fun y3 h1 h2 => by
        have h := may_spec (lessD d P z) y3 hdin h1 h2
        rw [decide_eq_true hmay2] at h
        exact h
      have hsa := hsha3 _ hf3 hl3
      have hma := hmay3 _ hf3 hl3
      obtain ⟨S1, hS1⟩ : ∃ S1, shF (Cof.get d.ps (P : Int)) = S1 := ⟨_, rfl⟩
      obtain ⟨S2, hS2⟩ : ∃ S2, shF z = S2 := ⟨_, rfl⟩
      have c1 : S2.li ≤ S1.li := by rw [← hS1, ← hS2]; exact hz.li
      have c2 : S2.us ≤ S1.us := by rw [← hS1, ← hS2]; exact hz.u.2
      have c3 : S2.no ≤ S1.no := by rw [← hS1, ← hS2]; exact hz.t.2
      have c4 : S2.im = S1.im := by rw [← hS1, ← hS2]; show imF _ = imF _; rw [hz.o]
      rw [hS1] at hsha
      rw [hS2] at hsa
      repeat' (first | (refine XL_id ?_; first | refine XL_nil ?_ | refine XL_guard_yes rfl rfl rfl ?_ | refine XL_guard_no rfl rfl rfl rfl rfl ?_ | (refine XG_load ?_; first | refine XL_loadW tt_ok 0 rfl rfl rfl rfl rfl rfl ?_ | refine XL_loadW tt_ok 3 rfl rfl rfl rfl rfl rfl ?_ | refine XL_loadW tt_ok 4 rfl rfl rfl rfl rfl rfl ?_ | refine XL_load tt_ok 0 rfl rfl rfl rfl rfl rfl ?_ | refine XL_load tt_ok 1 rfl rfl rfl rfl rfl rfl ?_) | (refine XG_idx ?_; refine XL_idxo tt_ok 3 rfl rfl rfl rfl rfl rfl (by omega) (by omega) rfl ?_) | (refine XG_store ?_; first | (refine XL_putA tt_ok 3 (⟨(Cof.get qs (P : Int)).A, (Cof.get qs (P : Int)).m, (Cof.get qs (P : Int)).c, z⟩ : Pt) rfl rfl rfl rfl rfl rfl (by omega) ?_; refine XL_mem (fun h hs => stars_shut (isCf_back heq3 hf3 hAl) (stars_take [2, 2, 2] rfl hs)) ?_) | (refine XL_storeW tt_ok 0 rfl rfl rfl rfl rfl rfl rfl ?_; refine XL_nK 0 rfl (by repeat' (first | exact .nil | apply NL.cons)) ?_)) | (refine XG_call ?_; first | (refine XL_op tt_ok rfl rfl ?_) | refine XL_fn hsha rfl rfl (fun g hg hL => hpre.le hg) ?_ | refine XL_fn hsa rfl rfl (fun g hg hL => cf_at 1 rfl hL) ?_ | refine XL_fn hma rfl rfl (fun g hg hL => cf_at 2 rfl hL) ?_) | (refine XG_alloc ?_; (refine XL_alloc tt_ok rfl rfl (fun _ => rfl) (fun b => ?_); refine XL_nB (by repeat' (first | exact .nil | apply NL.cons)) ?_)) | (refine XL_op tt_ok rfl rfl ?_; try (first | refine XL_dec_t (by omega) ?_ | refine XL_dec_f (by omega) ?_ | refine XL_dec (fun _ => ?_) (fun _ => ?_)))) | (refine X_id ?_; first | refine X_seq ?_ | (refine X_regionN (by repeat' (first | exact .nil | apply NL.cons)) ?_) | refine X_ret ?_ | refine X_exit ?_ | refine X_cond_f rfl ?_) | (refine Y_id ?_; first | refine Y_then ?_ | refine Y_then_exit ?_ | refine Y_block_hit ?_))
      all_goals first
        | exact Y_fn1 rfl rfl rfl
        | (exfalso; omega)
        | skip
      
  · rw [decide_eq_false hm] at hmay
    repeat' (first | (refine XL_id ?_; first | refine XL_nil ?_ | (refine XG_load ?_; refine XL_loadW tt_ok 0 rfl rfl rfl rfl rfl rfl ?_) | (refine XG_box ?_; (refine XL_box rfl (fun _ => rfl) (fun _ => ?_); refine XL_nB (by repeat' (first | exact .nil | apply NL.cons)) ?_)) | (refine XG_call ?_; first | refine XL_fn awake_spec rfl rfl (fun _ _ _ => trivial) ?_ | refine XL_fn hmay rfl rfl (fun g hg hL => hpre.le hg) ?_) | (refine XL_op tt_ok rfl rfl ?_)) | (refine X_id ?_; first | refine X_seq ?_ | (refine X_regionN (by repeat' (first | exact .nil | apply NL.cons)) ?_) | refine X_skip ?_ | refine X_ret ?_ | refine X_cond_t rfl ?_ | refine X_cond_f rfl ?_) | (refine Y_id ?_; first | refine Y_then ?_ | refine Y_then_ret ?_))
    all_goals first
      | exact Y_fn1 rfl rfl rfl
      | skip
    
end Go.Proofs.Ytpokfingnflblaa
