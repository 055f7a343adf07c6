/- PlanParts: partitions do not meet. -/
import Derived.Test.YtpokfingnflblaaPb
import Derived.Test.YtpokfingnflblaaSe
import Derived.Test.YtpokfingnflblaaRf
set_option linter.unusedVariables false
namespace Go.Proofs.Ytpokfingnflblaa
open Go.RowKit Go.Cof

theorem place0 {q n sz : Nat} : (bs (some (⟨q, 0, none⟩ : Addr))).add (n * sz) = ⟨q, n * sz + 0, none⟩ := by
  show (⟨q, 0, none⟩ : Addr).add _ = _
  rw [Addr.add_lit, Nat.zero_add, Nat.add_zero]
set_option maxHeartbeats 16000000 in
theorem planParts_walk (d : Cd) (y : Ly) (hd : d.In) (hf : y.Fit) : FnC Try.prog 6 [cfV d y] (fun h => CfR h d y) (.bool true) := by
  refine Ctr.intro Try.func6 rfl rfl (by decide +kernel) fun F hpre => ?_
  have hpre : CfR F.heap d y := hpre
  have hl := hpre.len
  have hft := hf.t
  have hfp := hf.p
  have hcap := hf.cap
  have hmay := may_spec d y hd hf hl
  have hslo := Slots_spec d y hd hf hl
  by_cases hm : MayP d
  · have ha := hm.all
    have hmac := ha.mach
    have hco := hmac.co
    have hfr := hmac.fr
    have hps := hmac.ps
    have hsl : sltE d = (smF d.ps d.ps.length, 0) := if_pos hm
    have hslo : FnC Try.prog 23 [cfV d y] (fun h => CfR h d y) (.tuple #[iV (smF d.ps d.ps.length), iV 0]) := by rw [hsl] at hslo; exact hslo
    rw [decide_eq_true hm] at hmay
    have hsm := sm_le ha (Nat.le_refl _)
    repeat' (first | (refine XL_id ?_; first | refine XL_nil ?_ | (refine XG_load ?_; first | refine XL_loadW tt_ok 0 rfl rfl rfl rfl rfl rfl ?_ | refine XL_load tt_ok 0 rfl rfl rfl rfl rfl rfl ?_) | (refine XG_box ?_; (refine XL_box rfl (fun _ => rfl) (fun _ => ?_); refine XL_nB (by repeat' (first | exact .nil | apply NL.cons)) ?_)) | (refine XG_call ?_; first | refine XL_fn awake_spec rfl rfl (fun _ _ _ => trivial) ?_ | refine XL_fn hmay rfl rfl (fun g hg hL => hpre.le hg) ?_) | (refine XG_make ?_; (refine XL_make encN (0 : Int) tt_ok rfl rfl rfl rfl rfl rfl rfl rfl (by omega) (by omega) (by show (8 : Int) * _ ≤ _; omega) (by omega) (fun _ => rfl) (fun g => ?_))) | (refine XL_op tt_ok rfl rfl ?_)) | (refine X_id ?_; first | refine X_block (hold ?_) | refine X_seq ?_ | (refine X_regionN (by repeat' (first | exact .nil | apply NL.cons)) ?_) | refine X_skip ?_ | refine X_cond_f rfl ?_) | (refine Y_id ?_; refine Y_then ?_))
    intro _
    refine X_loopD2 [1, 7] (fun (i : Nat) (zs : List Int) => [(8, .int .i64 i), (5, iV (ftF d i)), (6, iV (smF d.ps i))]) (fun i zs => [own encN (some ⟨g, 0, none⟩) d.co.toNat d.co.toNat zs, _]) (fun i zs => i ≤ d.ps.length ∧ Mk d.co (colsF d i) zs) (fun i _ => d.ps.length - i) 0 (List.replicate d.co.toNat 0) rfl ⟨Nat.zero_le _, Mk.nil (by omega)⟩ (by (repeat' (first | exact trivial | refine And.intro rfl ?_)); done) (stars_only [0, 0] rfl) ?_
    intro i zs hi
    obtain ⟨hi, hmk⟩ := hi
    by_cases hlt : i < d.ps.length
    · have hlt1 : i < y.pm := by omega
      have hth : thE d (i : Int) = 0 := by unfold thE; rw [if_pos hm, if_pos (by omega)]
      have htot := Total_spec d y hd hf hl (i : Int)
      have hbas := Base_spec d y hd hf hl (i : Int)
      have hsha := Shape_spec d y hd hf hl (i : Int)
      have hto : totE d (i : Int) = toF d i := by unfold totE; rw [if_pos hth]; rfl
      have hba : basE d (i : Int) = smF d.ps i := by unfold basE; rw [if_pos hth]; rfl
      have hsh : shpE d (i : Int) = shF (Cof.get d.ps (i : Int)) := by unfold shpE; rw [if_pos hth]
      rw [hth, hto] at htot
      rw [hth, hba] at hbas
      rw [hth, hsh] at hsha
      obtain ⟨hcol, hquo⟩ := ha.part i hlt
      have hnine := QuoP.nine rfl hquo
      have hbig := QuoP.big rfl hmac hquo
      have hmost := most_spec d.cs (shF (Cof.get d.ps (i : Int))) hd.cs ha.cost (shF_ok hquo.1)
      have hmle := (ha.sli.2.2.2 hmac ha.cost).2 i hlt (by unfold partE; rw [if_pos hcol, if_pos hquo])
      obtain ⟨M, hMo⟩ : ∃ M, mostF d.cs (shF (Cof.get d.ps (i : Int))) = M := ⟨_, rfl⟩
      rw [hMo] at hmost hmle
      have hdat := get_dat hpre hlt1
      have hsmi := sm_le ha (n := i) (by omega)
      have hsmj := sm_le ha (n := i + 1) (by omega)
      have hft1 : ftF d (i + 1) = ftF d i + toF d i := rfl
      have hsm1 : smF d.ps (i + 1) = smF d.ps i + (Cof.get d.ps (i : Int)).k := rfl
      have hkr := ha.k i hlt
      have hsr := smF_rng (l := d.ps) (n := i) fun j hj => ha.k j (by omega)
      have hfr1 := ft_rng ha (n := i) (by omega)
      have hfr2 := toF_to ha hlt
      have hli := sh_li hquo.1
      have hxl := hcol.len
      rw [← hdat] at hnine hbig hmost hsm1 hsha hkr hli
      obtain ⟨S, hS⟩ : ∃ S, shF (Cof.get y.ps (i : Int)).d = S := ⟨_, rfl⟩
      have hSl : S.li = liF (Cof.get y.ps (i : Int)).d := by rw [← hS]
      rw [hS] at hmost hsha
      rw [← hSl] at hli
      obtain ⟨I, hI⟩ : ∃ I, imF (Cof.get y.ps (i : Int)).d.o = I := ⟨_, rfl⟩
      have hshl := @shl_im (Cof.get y.ps (i : Int)).d.o (by omega)
      have him := imF_rng (Cof.get y.ps (i : Int)).d.o
      have hneI : neF (Cof.get y.ps (i : Int)).d = I + (Cof.get y.ps (i : Int)).d.u + (Cof.get y.ps (i : Int)).d.t + (Cof.get y.ps (i : Int)).d.s + (Cof.get y.ps (i : Int)).d.r + (Cof.get y.ps (i : Int)).d.d := by rw [← hI]
      rw [hneI] at hbig
      rw [hI] at hshl him hbig
      obtain ⟨T, hT⟩ : ∃ T, toF d i = T := ⟨_, rfl⟩
      rw [hT] at htot hft1 hbig hfr2
      obtain ⟨F1, hF1⟩ : ∃ F1, ftF d (i + 1) = F1 := ⟨_, rfl⟩
      obtain ⟨S1, hS1⟩ : ∃ S1, smF d.ps (i + 1) = S1 := ⟨_, rfl⟩
      rw [hF1] at hft1
      rw [hS1] at hsm1 hsmj
      have hst5 : ftF d i + T = F1 := hft1.symm
      have hst6 : smF d.ps i + (Cof.get y.ps (i : Int)).d.k = S1 := hsm1.symm
      have r1 := hpre.ps
      have rx : rdS encN F.heap (Cof.get y.ps (i : Int)).A (Cof.get y.ps (i : Int)).m (Cof.get d.ps (i : Int)).xs := by have := hpre.xs _ (get_memN hpre hlt1); rw [hdat] at this; exact this
      have hxm : (Cof.get y.ps (i : Int)).m = (Cof.get d.ps (i : Int)).xs.length := rx.1
      repeat' (first | (refine XL_id ?_; first | refine XL_nil ?_ | refine XL_guard_yes rfl rfl rfl ?_ | (refine XG_load ?_; first | refine XL_loadW tt_ok 0 rfl rfl rfl rfl rfl rfl ?_ | refine XL_loadW tt_ok 2 rfl rfl rfl rfl rfl rfl ?_ | refine XL_load tt_ok 0 rfl rfl rfl rfl rfl rfl ?_ | refine XL_load tt_ok 1 rfl rfl rfl rfl rfl rfl ?_ | refine XL_load tt_ok 2 rfl rfl rfl rfl rfl rfl ?_ | refine XL_load tt_ok 3 rfl rfl rfl rfl rfl rfl ?_ | refine XL_elW tt_ok rfl (by assumption) rfl (by omega) (by omega) rfl rfl rfl rfl ?_) | (refine XG_idx ?_; refine XL_idx tt_ok rfl rfl rfl rfl rfl (by assumption) (by omega) (by omega) rfl ?_) | (refine XG_call ?_; first | (refine XL_op tt_ok rfl rfl ?_) | refine XL_fn htot rfl rfl (fun g hg hL => hpre.le hg) ?_ | refine XL_fn hbas rfl rfl (fun g hg hL => hpre.le hg) ?_ | refine XL_fn hsha rfl rfl (fun g hg hL => hpre.le hg) ?_ | refine XL_fn hmost rfl rfl (fun _ _ _ => trivial) ?_) | (refine XG_alloc ?_; (refine XL_alloc tt_ok rfl rfl (fun _ => rfl) (fun b => ?_); refine XL_nB (by repeat' (first | exact .nil | apply NL.cons)) ?_)) | (refine XG_store ?_; (refine XL_storeW tt_ok 0 rfl rfl rfl rfl rfl rfl rfl ?_; refine XL_nK 0 rfl (by repeat' (first | exact .nil | apply NL.cons)) ?_)) | (refine XL_op tt_ok rfl rfl ?_; refine XL_int (Eq.trans (wrap_i64 (by omega) (by omega)) hst5) ?_) | (refine XL_op tt_ok rfl rfl ?_; refine XL_int (Eq.trans (wrap_i64 (by omega) (by omega)) hst6) ?_) | (refine XL_op tt_ok rfl rfl ?_; try (first | refine XL_int (wrap_i64 (by omega) (by omega)) ?_ | refine XL_dec_t (by omega) ?_ | refine XL_dec_f (by omega) ?_))) | (refine XD_id ?_; first | refine XD_int hshl ?_ | (refine XD_thaw thaw ?_; refine XD_nil ?_) | (refine XD_id ?_; (first | (refine XD_uL rfl ?_; refine XD_s rfl rfl rfl (XV_load tt_ok rfl (blk_at 1 rfl hM) rfl rfl rfl) rfl ?_) | (refine XD_gL rfl ?_; refine XD_sy rfl rfl rfl rfl rfl (XV_load tt_ok rfl (blk_at 1 rfl hM) rfl rfl rfl) rfl ?_) | (refine XD_u rfl rfl ?_; first | refine XD_s rfl rfl rfl (XV_op tt_ok rfl) rfl ?_ | refine XD_s rfl rfl rfl (XV_op tt_ok (opV_shl rfl rfl (by omega))) rfl ?_) | (refine XD_g rfl rfl ?_; refine XD_sy rfl rfl rfl rfl rfl (XV_op tt_ok rfl) rfl ?_)); try (first | refine XD_int (wrap_i64 (by omega) (by omega)) ?_ | refine XD_dec_f (by omega) ?_))) | (refine X_id ?_; first | refine X_block (id := 2) (hold ?_) | (refine X_drawS (id := 19) [0, 1, 2, 3, 4, 5, 6, 7, 8, 9, 10, 11, 12, 13, 14, 15, 16, 17, 18, 19, 20, 21, 22, 23, 24] (fun _ => .s) 8 (by repeat' (first | exact Split.nil | apply Split.blk | apply Split.keep)) mixed (by decide +kernel) ?_; intro G hFG hM thaw; show XD _ _ _ _ _ _ [0, 1, 2, 3, 4, 5, 6, 7, 8, 9, 10, 11, 12, 13, 14, 15, 16, 17, 18, 19, 20, 21, 22, 23, 24] _ _ _) | refine X_seq ?_ | (refine X_regionN (by repeat' (first | exact .nil | apply NL.cons)) ?_) | refine X_skip ?_ | refine X_block ?_ | refine X_cond_t rfl ?_ | refine X_cond_f rfl ?_) | (refine Y_id ?_; refine Y_then ?_))
      intro _
      refine X_loopD2 [1, 5, 6, 7, 8, 9] (fun (k : Nat) (zs : List Int) => [(18, .int .i64 k)]) (fun k zs => [own encN (some ⟨g, 0, none⟩) d.co.toNat d.co.toNat zs, blk _ (ptL (Cof.get y.ps (i : Int))) 41, _]) (fun k zs => k ≤ (Cof.get y.ps (i : Int)).m ∧ Mk d.co (colsF d i ++ (Cof.get d.ps (i : Int)).xs.take k) zs) (fun k _ => (Cof.get y.ps (i : Int)).m - k) 0 zs rfl ⟨Nat.zero_le _, by rw [List.take_zero, List.append_nil]; exact hmk⟩ (by (repeat' (first | exact trivial | refine And.intro rfl ?_)); done) (stars_only [0, 1, 1] rfl) ?_
      clear hmk
      intro k zs hk
      obtain ⟨hk, hmk⟩ := hk
      by_cases hlt2 : k < (Cof.get y.ps (i : Int)).m
      · have hgd := hcol.2 k (by omega)
        have hv0 := hgd.1
        have hv1 := hgd.2.1
        have hnew := col_new ha hlt (i := k) (by omega)
        obtain ⟨hz0, hmk2⟩ := hmk.stepI hv0 hv1 hnew
        have hown : FnC Try.prog 17 [cfV d y, iV (Cof.get (Cof.get d.ps (i : Int)).xs (k : Int))] (fun h => CfR h d y) (.tuple #[iV i, bV true, iV 0]) := by
          have h := Owner_spec d y hd hf hl (Cof.get (Cof.get d.ps (i : Int)).xs (k : Int))
          rw [own_here hm hlt (by omega)] at h
          exact h
        rw [List.append_assoc, ← take_snoc' _ _ (by omega)] at hmk2
        repeat' (first | (refine XL_id ?_; first | refine XL_nil ?_ | refine XL_guard_yes rfl rfl rfl ?_ | (refine XG_load ?_; first | refine XL_load tt_ok 1 rfl rfl rfl rfl rfl rfl ?_ | refine XL_el tt_ok rfl (by assumption) rfl (by omega) (by omega) rfl rfl rfl rfl ?_ | refine XL_elo tt_ok 0 rfl rfl rfl (by omega) (by omega) rfl rfl rfl rfl ?_) | (refine XG_idx ?_; first | refine XL_idx tt_ok rfl rfl rfl rfl rfl (by assumption) (by omega) (by omega) rfl ?_ | refine XL_idxo tt_ok 0 rfl rfl rfl rfl rfl rfl (by omega) (by omega) rfl ?_) | (refine XG_call ?_; first | (refine XL_op tt_ok rfl rfl ?_) | refine XL_fn hown rfl rfl (fun g hg hL => (hpre.le hFG).le hg) ?_) | (refine XG_store ?_; refine XL_put (i := (Cof.get (Cof.get d.ps (i : Int)).xs (k : Int)).toNat) (f := 0) (x' := Cof.get zs (Cof.get (Cof.get d.ps (i : Int)).xs (k : Int)) + 1) tt_ok 0 rfl rfl place0 rfl rfl rfl rfl (by omega) rfl rfl rfl ?_) | (refine XL_op tt_ok rfl rfl ?_; try (first | refine XL_int (wrap_i64 (by omega) (by omega)) ?_ | refine XL_dec_t (by omega) ?_ | refine XL_dec_f (by omega) ?_))) | (refine XD_id ?_; first | (refine XD_thaw thaw ?_; refine XD_nil ?_) | (refine XD_id ?_; (first | (refine XD_uL rfl ?_; first | refine XD_s rfl rfl rfl (XV_load tt_ok rfl (blk_at 0 rfl hM) rfl rfl rfl) rfl ?_ | refine XD_s rfl rfl rfl (XV_loadW tt_ok rfl (blk_at 1 rfl hM) rfl rfl rfl) rfl ?_ | refine XD_s rfl rfl rfl (XV_el tt_ok rfl (rdS.le (by assumption) hFG) rfl (by omega) (by omega) rfl rfl rfl) rfl ?_) | (refine XD_uI rfl ?_; refine XD_s rfl rfl rfl (XV_idx tt_ok rfl rfl rfl rfl rfl (rdS.le (by assumption) hFG) (by omega) (by omega)) rfl ?_) | (refine XD_u rfl rfl ?_; refine XD_s rfl rfl rfl (XV_op tt_ok rfl) rfl ?_))) | refine XD_m rfl rfl ?_) | (refine X_id ?_; first | (refine X_drawS (id := 26) [0, 1, 2, 3, 4, 5, 6, 7, 8, 9, 10, 11, 12, 13] (fun | 6 => .m | _ => .s) 8 (by repeat' (first | exact Split.nil | apply Split.blk | apply Split.keep)) mixed (by decide +kernel) ?_; intro G hFG hM thaw; show XD _ _ _ _ _ _ [0, 1, 2, 3, 4, 5, 6, 7, 8, 9, 10, 11, 12, 13] _ _ _) | refine X_seq ?_ | (refine X_regionN (by repeat' (first | exact .nil | apply NL.cons)) ?_) | refine X_skip ?_ | refine X_block ?_ | refine X_cond_t rfl ?_ | refine X_cond_f rfl ?_) | (refine Y_id ?_; first | refine Y_then ?_ | refine Y_block_normal ?_ | refine Y_m ?_))
        all_goals first
          | exact Y_again (k + 1, _) fun _ _ hf hs => ⟨⟨hlt2, hmk2⟩, by show (Cof.get y.ps (i : Int)).m - (k + 1) < (Cof.get y.ps (i : Int)).m - k; omega, hf.sub (by (repeat' (first | exact trivial | refine And.intro rfl ?_)); done), hs⟩
          | skip
        
      · have hall : (Cof.get d.ps (i : Int)).xs.take k = (Cof.get d.ps (i : Int)).xs := List.take_of_length_le (by omega)
        rw [hall] at hmk
        repeat' (first | (refine XL_id ?_; first | refine XL_nil ?_ | (refine XG_load ?_; refine XL_load tt_ok 1 rfl rfl rfl rfl rfl rfl ?_) | (refine XL_op tt_ok rfl rfl ?_; try (first | refine XL_int (wrap_i64 (by omega) (by omega)) ?_ | refine XL_dec_f (by omega) ?_))) | (refine X_id ?_; first | refine X_seq ?_ | (refine X_regionN (by repeat' (first | exact .nil | apply NL.cons)) ?_) | refine X_exit ?_ | refine X_cond_f rfl ?_) | (refine Y_id ?_; first | refine Y_then ?_ | refine Y_then_exit ?_ | refine Y_block_hit ?_ | refine Y_block_normal ?_))
        all_goals first
          | (subst hF1; subst hS1; exact Y_again (i + 1, zs) fun _ _ hf hs => ⟨⟨hlt, hmk⟩, by show d.ps.length - (i + 1) < d.ps.length - i; omega, hf.sub (by (repeat' (first | exact trivial | refine And.intro rfl ?_)); done), hs.imp fun h hs => stars_only [0, 1] rfl h hs⟩)
          | skip
        
    · obtain hie : i = d.ps.length := by omega
      subst hie
      have hle := hmk.le
      have hfle := ft_le hmac hle
      obtain ⟨F1, hF1⟩ : ∃ F1, ftF d d.ps.length = F1 := ⟨_, rfl⟩
      obtain ⟨S1, hS1⟩ : ∃ S1, smF d.ps d.ps.length = S1 := ⟨_, rfl⟩
      rw [hF1] at hfle
      rw [hS1] at hslo hsm
      rw [hF1, hS1]
      repeat' (first | (refine XL_id ?_; first | refine XL_nil ?_ | (refine XG_load ?_; refine XL_load tt_ok 1 rfl rfl rfl rfl rfl rfl ?_) | (refine XL_op tt_ok rfl rfl ?_; try (refine XL_dec_f (by omega) ?_))) | (refine X_id ?_; first | refine X_block (id := 4) (hold ?_) | refine X_seq ?_ | (refine X_regionN (by repeat' (first | exact .nil | apply NL.cons)) ?_) | refine X_exit ?_ | refine X_cond_f rfl ?_) | (refine Y_id ?_; first | refine Y_then ?_ | refine Y_then_exit ?_ | refine Y_block_hit ?_))
      all_goals first
        | (exfalso; omega)
        | skip
      intro _
      refine X_loopD [1, 5, 6, 7] (fun (i : Nat) => [(22, .int .i64 i)]) (fun i => [own encN (some ⟨g, 0, none⟩) d.co.toNat d.co.toNat zs, _]) (fun i => i ≤ d.co.toNat) (fun i => d.co.toNat - i) 0 rfl (Nat.zero_le _) (by (repeat' (first | exact trivial | refine And.intro rfl ?_)); done) (stars_only [0, 0] rfl) ?_
      intro i hi
      have hi : i ≤ d.co.toNat := hi
      by_cases hlt2 : i < d.co.toNat
      · obtain ⟨q, hq⟩ := own_all hm (v := i) (by omega)
        have hzi := hmk.here i (by omega)
        by_cases hin : (i : Int) ∈ colsF d d.ps.length
        · rw [decide_eq_true hin] at hq
          have hown : FnC Try.prog 17 [cfV d y, iV (i : Int)] (fun h => CfR h d y) (.tuple #[iV q, bV true, iV 0]) := by
            have h := Owner_spec d y hd hf hl (i : Int)
            rw [hq] at h
            exact h
          rw [if_pos hin] at hzi
          repeat' (first | (refine XL_id ?_; first | refine XL_nil ?_ | refine XL_guard_yes rfl rfl rfl ?_ | (refine XG_load ?_; first | refine XL_loadW tt_ok 1 rfl rfl rfl rfl rfl rfl ?_ | refine XL_elo tt_ok 0 rfl rfl rfl (by omega) (by omega) rfl rfl rfl rfl ?_) | (refine XG_idx ?_; refine XL_idxo tt_ok 0 rfl rfl rfl rfl rfl rfl (by omega) (by omega) rfl ?_) | (refine XG_call ?_; first | (refine XL_op tt_ok rfl rfl ?_) | refine XL_fn hown rfl rfl (fun g hg hL => hpre.le hg) ?_) | (refine XL_op tt_ok rfl rfl ?_; try (first | refine XL_int (wrap_i64 (by omega) (by omega)) ?_ | refine XL_dec_t (by omega) ?_ | refine XL_dec_f (by omega) ?_))) | (refine X_id ?_; first | refine X_seq ?_ | (refine X_regionN (by repeat' (first | exact .nil | apply NL.cons)) ?_) | refine X_skip ?_ | refine X_block ?_ | refine X_cond_t rfl ?_ | refine X_cond_f rfl ?_) | (refine Y_id ?_; first | refine Y_then ?_ | refine Y_block_normal ?_))
          all_goals first
            | exact Y_again (i + 1) fun _ _ hf hs => ⟨by show i + 1 ≤ d.co.toNat; omega, by show d.co.toNat - (i + 1) < d.co.toNat - i; omega, hf.sub (by (repeat' (first | exact trivial | refine And.intro rfl ?_)); done), hs⟩
            | skip
          
        · rw [decide_eq_false hin] at hq
          have hown : FnC Try.prog 17 [cfV d y, iV (i : Int)] (fun h => CfR h d y) (.tuple #[iV q, bV false, iV 0]) := by
            have h := Owner_spec d y hd hf hl (i : Int)
            rw [hq] at h
            exact h
          rw [if_neg hin] at hzi
          repeat' (first | (refine XL_id ?_; first | refine XL_nil ?_ | refine XL_guard_yes rfl rfl rfl ?_ | (refine XG_load ?_; first | refine XL_loadW tt_ok 1 rfl rfl rfl rfl rfl rfl ?_ | refine XL_elo tt_ok 0 rfl rfl rfl (by omega) (by omega) rfl rfl rfl rfl ?_) | (refine XG_idx ?_; refine XL_idxo tt_ok 0 rfl rfl rfl rfl rfl rfl (by omega) (by omega) rfl ?_) | (refine XG_call ?_; first | (refine XL_op tt_ok rfl rfl ?_) | refine XL_fn hown rfl rfl (fun g hg hL => hpre.le hg) ?_) | (refine XL_op tt_ok rfl rfl ?_; try (first | refine XL_int (wrap_i64 (by omega) (by omega)) ?_ | refine XL_dec_t (by omega) ?_ | refine XL_dec_f (by omega) ?_))) | (refine X_id ?_; first | refine X_seq ?_ | (refine X_regionN (by repeat' (first | exact .nil | apply NL.cons)) ?_) | refine X_skip ?_ | refine X_block ?_ | refine X_cond_t rfl ?_ | refine X_cond_f rfl ?_) | (refine Y_id ?_; first | refine Y_then ?_ | refine Y_block_normal ?_))
          all_goals first
            | exact Y_again (i + 1) fun _ _ hf hs => ⟨by show i + 1 ≤ d.co.toNat; omega, by show d.co.toNat - (i + 1) < d.co.toNat - i; omega, hf.sub (by (repeat' (first | exact trivial | refine And.intro rfl ?_)); done), hs⟩
            | skip
          
      · repeat' (first | (refine XL_id ?_; first | refine XL_nil ?_ | refine XL_guard_yes rfl rfl rfl ?_ | (refine XG_load ?_; first | refine XL_loadW tt_ok 1 rfl rfl rfl rfl rfl rfl ?_ | refine XL_load tt_ok 1 rfl rfl rfl rfl rfl rfl ?_) | (refine XG_call ?_; first | (refine XL_op tt_ok rfl rfl ?_) | refine XL_fn hslo rfl rfl (fun g hg hL => hpre.le hg) ?_) | (refine XL_op tt_ok rfl rfl ?_; try (first | refine XL_dec_t (by omega) ?_ | refine XL_dec_f (by omega) ?_))) | (refine X_id ?_; first | refine X_seq ?_ | (refine X_regionN (by repeat' (first | exact .nil | apply NL.cons)) ?_) | refine X_ret ?_ | refine X_exit ?_ | refine X_cond_f rfl ?_) | (refine Y_id ?_; first | refine Y_then ?_ | refine Y_then_exit ?_ | refine Y_block_hit ?_))
        all_goals first
          | exact Y_fn1 rfl rfl rfl
          | (exfalso; omega)
          | skip
        
  · have hslo : FnC Try.prog 23 [cfV d y] (fun h => CfR h d y) (.tuple #[iV 0, iV 5]) := by rw [show sltE d = (0, 5) from if_neg hm] at hslo; exact hslo
    rw [decide_eq_false hm] at hmay
    have hcl : 0 < (chkF d).length := List.length_pos_iff.2 hm
    repeat' (first | (refine XL_id ?_; first | refine XL_nil ?_ | refine XL_guard_yes rfl rfl rfl ?_ | (refine XG_load ?_; refine XL_loadW tt_ok 0 rfl rfl rfl rfl rfl rfl ?_) | (refine XG_box ?_; (refine XL_box rfl (fun _ => rfl) (fun _ => ?_); refine XL_nB (by repeat' (first | exact .nil | apply NL.cons)) ?_)) | (refine XG_call ?_; first | (refine XL_op tt_ok rfl rfl ?_) | refine XL_fn awake_spec rfl rfl (fun _ _ _ => trivial) ?_ | refine XL_fn hmay rfl rfl (fun g hg hL => hpre.le hg) ?_ | refine XL_fn hslo rfl rfl (fun g hg hL => hpre.le hg) ?_ | (refine XL_callK [] (check_spec d y hd hf hl) rfl rfl (fun _ => rfl) (fun g hg hL => hpre.le hg) (fun u L hv => ?_); obtain ⟨A1, c1, rfl, rfl⟩ := hv)) | (refine XL_op tt_ok rfl rfl ?_; try (refine XL_dec_t (by omega) ?_))) | (refine X_id ?_; first | refine X_seq ?_ | (refine X_regionN (by repeat' (first | exact .nil | apply NL.cons)) ?_) | refine X_skip ?_ | refine X_ret ?_ | refine X_cond_t rfl ?_ | refine X_cond_f rfl ?_) | (refine Y_id ?_; first | refine Y_then ?_ | refine Y_then_ret ?_))
    all_goals first
      | exact Y_fn1 rfl rfl rfl
      | (exfalso; omega)
      | skip
    
end Go.Proofs.Ytpokfingnflblaa
