/- CoreColours, walked. -/
import Derived.Test.YthmllhihldbfoaaCq
set_option linter.unusedVariables false
namespace Go.Proofs.Ythmllhihldbfoaa
open Go.RowKit Go.Cof

theorem foldT_one (d : Pl.Cd) (x : Co) (pa : Int) : foldT d x [pa] = ⟨hit1 d x pa, hit2 d x pa, oneF d x pa⟩ := rfl
set_option maxRecDepth 100000 in
set_option maxHeartbeats 16000000 in
theorem coreColours_walk (d : Pl.Cd) (y : Pl.Ly) (A : Option Addr) (m c : Nat) (l : List Int) (hd : d.In) (hf : y.Fit) (hdl : d.ps.length = y.pm) (hm0 : m ≤ 9223372036854775807) (hl : ∀ a ∈ l, 0 ≤ a ∧ a ≤ 18446744073709551615) :
    FnC Try.prog 3 [Pl.cfV d y, .slice A m c] (fun h => Pl.CfR h d y ∧ rdS encW h A m l) (.bool true) := by
  have hma := Pl.may_spec d y hd hf hdl
  by_cases hM : Pl.MayP d
  · have hmf := hM.all
    have hm := hmf.mach
    have hc := hmf.cost
    have hfr := hm.fr
    have hco := hm.co
    have hls := hm.ls
    have hwa := hm.wa
    obtain ⟨cc1, cc2, cc3, cc4, _⟩ := hc
    have hc := hmf.cost
    have hnew := conew_ok d y hd hf hdl hM
    refine Ctr.intro Try.func3 rfl rfl (by decide +kernel) fun F hpre => ?_
    obtain ⟨hcf, r1⟩ := hpre
    have hlen := r1.1
    repeat' (first | (refine XL_id ?_; first | refine XL_nil ?_ | (refine XG_box ?_; (refine XL_box rfl (fun _ => rfl) (fun bx => ?_); refine XL_nB (by repeat' (first | exact .nil | apply NL.cons)) ?_)) | (refine XG_load ?_; refine XL_loadW tt_ok 0 rfl rfl rfl rfl rfl rfl ?_) | (refine XG_call ?_; first | refine XL_fn awake_spec rfl rfl (fun _ _ _ => trivial) ?_ | (refine XL_callK [] hnew rfl rfl (fun _ => rfl) (fun g hg hL => hcf.le hg) (fun u L hv => ?_); obtain ⟨hh, rfl, rfl⟩ := hv)) | (refine XL_op tt_ok rfl rfl ?_; try (refine XL_dec_f (by omega) ?_))) | (refine X_id ?_; first | refine X_block (id := 0) (hold ?_) | refine X_seq ?_ | (refine X_regionN (by repeat' (first | exact .nil | apply NL.cons)) ?_) | refine X_skip ?_ | refine X_cond_f rfl ?_) | (refine Y_id ?_; refine Y_then ?_))
    all_goals first
      | (exfalso; omega)
      | skip
    intro _
    refine X_loopD2 [1, 2, 5] (fun (i : Nat) (x : Co) => [(7, .int .i64 i)]) (fun i x => [isCo hh d x [], blk bx (Pl.cfL d y) 28]) (fun i x => i ≤ m ∧ x.sp = 0 ∧ Good d x.s2) (fun i _ => m - i) 0 (co0 d) rfl ⟨Nat.zero_le _, rfl, Good.rep d _⟩ (by (repeat' (first | exact trivial | refine And.intro rfl ?_)); done) (fun h hs => hs) ?_
    intro i x hi
    obtain ⟨hi, hsp, hgd⟩ := hi
    refine X_fact 0 rfl (fun _ o => isCo_ok o) fun ⟨ok1, ok2⟩ => ?_
    repeat' ((refine X_id ?_; first | refine X_cutD (c := .region 7 _ _) [1, 2, 5, 7] (fun (b : Bool) => [(46, .bool b)]) (fun _ => [isCo hh d x [], blk bx (Pl.cfL d y) 28]) (fun b => b = true → i < m) rfl (hold ?_) (fun b hb => hold ?_) | refine X_seq ?_))
    · intro _
      by_cases h1 : i < m
      · by_cases h2 : i < 100
        · repeat' (first | (refine XL_id ?_; first | refine XL_nil ?_ | refine XL_guard_yes rfl rfl rfl ?_ | (refine XL_op tt_ok rfl rfl ?_; try (refine XL_dec_t (by omega) ?_))) | (refine X_id ?_; (refine X_regionN (by repeat' (first | exact .nil | apply NL.cons)) ?_)))
          all_goals first
            | exact Y_again true fun _ _ hf hs => ⟨fun _ => h1, hf.sub (by (repeat' (first | exact trivial | refine And.intro rfl ?_)); done), hs⟩
            | (exfalso; omega)
            | skip
          
        · repeat' (first | (refine XL_id ?_; first | refine XL_nil ?_ | refine XL_guard_yes rfl rfl rfl ?_ | (refine XL_op tt_ok rfl rfl ?_; try (first | refine XL_dec_t (by omega) ?_ | refine XL_dec_f (by omega) ?_))) | (refine X_id ?_; (refine X_regionN (by repeat' (first | exact .nil | apply NL.cons)) ?_)))
          all_goals first
            | exact Y_again false fun _ _ hf hs => ⟨fun h => (by cases h), hf.sub (by (repeat' (first | exact trivial | refine And.intro rfl ?_)); done), hs⟩
            | (exfalso; omega)
            | skip
          
      · repeat' (first | (refine XL_id ?_; first | refine XL_nil ?_ | refine XL_guard_no rfl rfl rfl rfl rfl ?_ | (refine XL_op tt_ok rfl rfl ?_; try (refine XL_dec_f (by omega) ?_))) | (refine X_id ?_; (refine X_regionN (by repeat' (first | exact .nil | apply NL.cons)) ?_)))
        all_goals first
          | exact Y_again false fun _ _ hf hs => ⟨fun h => (by cases h), hf.sub (by (repeat' (first | exact trivial | refine And.intro rfl ?_)); done), hs⟩
          | (exfalso; omega)
          | skip
        
    · intro _
      refine Y_then ?_
      cases b with
      | true =>
        have hlt : i < m := hb rfl
        obtain ⟨l0, l1⟩ := hl _ (get_mem' (l := l) (i := (i : Int)) (by omega) (by omega))
        obtain ⟨at', hat⟩ : ∃ a, (Cof.get l (i : Int)).tmod (d.fr * 256) = a := ⟨_, rfl⟩
        have hat0 : 0 ≤ at' := by rw [← hat]; exact Int.tmod_nonneg _ l0
        have hat1 : at' < d.fr * 256 := by rw [← hat]; exact Int.tmod_lt_of_pos _ (by omega)
        have hx7 := xor7 hat0 (by omega)
        obtain ⟨at7, hat7⟩ : ∃ a, bits .xor .u64 at' 7 = a := ⟨_, rfl⟩
        rw [hat7] at hx7
        obtain ⟨h70, h71⟩ := hx7
        have k1' := fun A c => touch_spec hh d x [] A 1 c [at'] hm hc (fun pa hp => by rw [List.mem_singleton.1 hp]; exact ⟨hat0, hat1⟩) (by omega) (by rw [hsp]; decide) (by decide)
        rw [foldT_one] at k1'
        have hy1 : (oneF d x at').sp = cstF d.cs (hit1 d x at') (hit2 d x at') := by show x.sp + _ = _; rw [hsp, Int.zero_add]
        have hse1 := settle_spec hh d (oneF d x at') []
        rw [hy1] at hse1
        have hg1 : Good d (oneF d x at').s2 := by
          show Good d (if hit1 d x at' then x.s2 else put2 d x.s2 at')
          split
          · exact hgd
          · exact hgd.put hm ok2.len hat0 hat1
        have hh7 : hit1 d ⟨(oneF d x at').s1, (oneF d x at').s2, 0⟩ at7 = true := again_hit hm hat0 h71 ok1.len
        obtain ⟨ya, hya⟩ : ∃ ya, hit1 d x at' = ya := ⟨_, rfl⟩
        obtain ⟨yb, hyb⟩ : ∃ yb, hit2 d x at' = yb := ⟨_, rfl⟩
        rw [hya, hyb] at k1' hse1
        obtain ⟨x1, hx1⟩ : ∃ x1, oneF d x at' = x1 := ⟨_, rfl⟩
        rw [hx1] at k1' hse1 hg1 hh7
        have k2' := fun A c => touch_spec hh d ⟨x1.s1, x1.s2, 0⟩ [] A 1 c [at7] hm hc (fun pa hp => by rw [List.mem_singleton.1 hp]; exact ⟨h70, by omega⟩) (Int.le_refl _) (by show (0 : Int) + 1 * 65536 ≤ _; decide) (by decide)
        rw [foldT_one] at k2'
        have hh72 : hit2 d ⟨x1.s1, x1.s2, 0⟩ at7 = false := by unfold hit2; rw [hh7]; rfl
        have hx2 : oneF d ⟨x1.s1, x1.s2, 0⟩ at7 = ⟨put1 d x1.s1 at7, x1.s2, d.cs.l1⟩ := by
          unfold oneF; rw [hh7, hh72]; show Co.mk _ x1.s2 (0 + d.cs.l1) = _; rw [Int.zero_add]
        rw [hh7, hh72, hx2] at k2'
        have hse2 := settle_spec hh d ⟨put1 d x1.s1 at7, x1.s2, d.cs.l1⟩ []
        dsimp only at k1' k2' hse1 hse2
        obtain ⟨N, hN⟩ : ∃ N, cstF d.cs ya yb = N := ⟨_, rfl⟩
        rw [hN] at hse1
        cases ya <;> cases yb <;> simp only [cstF, if_true, if_false, Bool.false_eq_true] at hN
        all_goals
          repeat' (first | (refine XL_id ?_; first | refine XL_nil ?_ | refine XL_guard_yes rfl rfl rfl ?_ | (refine XL_neq (a := (⟨true, false⟩ : Ht)) (b := (⟨true, false⟩ : Ht)) eqHt rfl rfl rfl ?_; refine XL_dec_f (fun h => h rfl) ?_) | (refine XG_load ?_; first | refine XL_loadW tt_ok 1 rfl rfl rfl rfl rfl rfl ?_ | refine XL_load tt_ok 3 rfl rfl rfl rfl rfl rfl ?_ | refine XL_load tt_ok 5 rfl rfl rfl rfl rfl rfl ?_) | (refine XG_build ?_; (refine XL_build tt_ok rfl rfl rfl rfl rfl rfl rfl ?_; refine XL_aggN (by repeat' (first | exact .nil | apply NL.cons)) ?_)) | (refine XG_call ?_; first | refine XL_callE [1] (k1' _ _) rfl rfl rfl (fun g hg hL => blk_rdS (blk_at 0 rfl hL) rfl rfl) ?_ | refine XL_callE [1] (k2' _ _) rfl rfl rfl (fun g hg hL => blk_rdS (blk_at 0 rfl hL) rfl rfl) ?_ | refine XL_callE [1] hse1 rfl rfl rfl (fun _ _ _ => trivial) ?_ | refine XL_callE [1] hse2 rfl rfl rfl (fun _ _ _ => trivial) ?_) | (refine XG_alloc ?_; (refine XL_alloc tt_ok rfl rfl (fun _ => rfl) (fun b => ?_); refine XL_nB (by repeat' (first | exact .nil | apply NL.cons)) ?_)) | (refine XG_lit ?_; (refine XL_lit tt_ok rfl rfl rfl rfl rfl rfl rfl rfl rfl (fun _ => rfl) (fun b => ?_); refine XL_nB (by repeat' (first | exact .nil | apply NL.cons)) ?_)) | (refine XG_store ?_; (refine XL_storeW tt_ok 0 rfl rfl rfl rfl rfl rfl rfl ?_; refine XL_nK 0 rfl (by repeat' (first | exact .nil | apply NL.cons)) ?_)) | (refine XL_op tt_ok rfl rfl ?_; refine XL_int hat7 ?_) | (refine XL_op tt_ok rfl rfl ?_; try (first | refine XL_int (wrap_i64 (by omega) (by omega)) ?_ | refine XL_dec_f (by omega) ?_))) | (refine XD_id ?_; first | (refine XD_thaw thaw ?_; refine XD_nil ?_) | (refine XD_id ?_; (first | (refine XD_uL rfl ?_; first | refine XD_s rfl rfl rfl (XV_load tt_ok rfl (blk_at 0 rfl hM) rfl rfl rfl) rfl ?_ | refine XD_s rfl rfl rfl (XV_el tt_ok rfl (rdS.le (by assumption) hFG) rfl (by omega) (by omega) rfl rfl rfl) rfl ?_) | (refine XD_uI rfl ?_; refine XD_s rfl rfl rfl (XV_idx tt_ok rfl rfl rfl rfl rfl (rdS.le (by assumption) hFG) (by omega) (by omega)) rfl ?_) | (refine XD_u rfl rfl ?_; first | refine XD_s rfl rfl rfl (XV_op tt_ok rfl) rfl ?_ | refine XD_s rfl rfl rfl (XV_op (v := Value.int .u64 at') tt_ok (by rw [← hat]; exact opV_rem rfl rfl (by omega))) rfl ?_)); try (first | refine XD_int (shl8_u64 (by omega) (by omega)) ?_ | refine XD_int (wrap_i64 (by omega) (by omega)) ?_))) | (refine X_id ?_; first | (refine X_drawS (id := 9) [0, 1, 2, 3, 4, 5, 6, 7, 8, 9] (fun _ => .s) 8 (by (repeat apply Split.blk); apply Split.keep; repeat' (first | exact Split.nil | apply Split.blk)) mixed (by decide +kernel) ?_; intro G hFG hM thaw; show XD _ _ _ _ _ _ [0, 1, 2, 3, 4, 5, 6, 7, 8, 9] _ _ _) | refine X_seq ?_ | (refine X_regionN (by repeat' (first | exact .nil | apply NL.cons)) ?_) | refine X_skip ?_ | refine X_block ?_ | refine X_cond_t rfl ?_ | refine X_cond_f rfl ?_) | (refine Y_id ?_; first | refine Y_then ?_ | refine Y_block_normal ?_))
        all_goals first
          | exact Y_again (i + 1, ⟨put1 d x1.s1 at7, x1.s2, 0⟩) fun _ _ hf hs => ⟨⟨hlt, rfl, hg1⟩, by show m - (i + 1) < m - i; omega, hf.sub (by (repeat' (first | exact trivial | refine And.intro rfl ?_)); done), hs.imp fun g hg => stars_only [0, 4] rfl g hg⟩
          | (exfalso; omega)
          | skip
        
      | false =>
        have hle2 := linesTo_le ok2 x.s2.length (by rw [ok2.len]; exact Nat.le_refl _)
        have hnd := linesTo_nd ok2 x.s2.length (by rw [ok2.len]; exact Nat.le_refl _)
        have hcl := colines_spec hh d x []
        have hgl : ∀ p ∈ linesF x.s2, 0 ≤ p.2 ∧ p.2 < d.fr * 16 ∧ p.1 = p.2 / 16 % d.co * 16 + p.2 % 16 := fun p hp => by
          obtain ⟨j, h1, h2, h3⟩ := linesTo_fst hp
          obtain ⟨g1, g2, g3⟩ := hgd j h1 _ h3
          exact ⟨g1, g2, by rw [h2]; exact g3⟩
        have hlen2 : ((linesF x.s2).length : Int) ≤ d.co * 16 * d.wa := by
          have hle3 : (linesF x.s2).length ≤ (d.co * 16).toNat * d.wa.toNat := Nat.le_trans hle2 (Nat.le_of_eq (by rw [ok2.len]))
          have h1 : (((d.co * 16).toNat * d.wa.toNat : Nat) : Int) = d.co * 16 * d.wa := by
            rw [Int.natCast_mul, Int.toNat_of_nonneg (by omega), Int.toNat_of_nonneg (by omega)]
          rw [← h1]
          exact Int.ofNat_le.2 hle3
        have hp1 : d.co * 16 * d.wa ≤ 256 * 16 := Int.mul_le_mul (by omega) hwa.2 (by omega) (by decide)
        obtain ⟨W, hW⟩ : ∃ W, d.co * 16 * d.wa = W := ⟨_, rfl⟩
        rw [hW] at hlen2 hp1
        obtain ⟨ls, hls2⟩ : ∃ ls, linesF x.s2 = ls := ⟨_, rfl⟩
        rw [hls2] at hcl hgl hlen2
        replace hnd : ls.Nodup := hls2 ▸ hnd
        repeat' (first | (refine XL_id ?_; first | refine XL_nil ?_ | (refine XG_call ?_; (refine XL_callK [0] hcl rfl rfl (fun _ => rfl) (fun _ _ _ => trivial) (fun u L hv => ?_); obtain ⟨A2, c2, rfl, rfl⟩ := hv)) | (refine XL_op tt_ok rfl rfl ?_)) | (refine X_id ?_; first | refine X_block (id := 2) (hold ?_) | refine X_seq ?_ | (refine X_regionN (by repeat' (first | exact .nil | apply NL.cons)) ?_) | refine X_exit ?_ | refine X_cond_f rfl ?_) | (refine Y_id ?_; first | refine Y_then ?_ | refine Y_then_exit ?_ | refine Y_block_hit ?_))
        all_goals first
          | (exfalso; omega)
          | skip
        intro _
        refine X_loopD [2, 18] (fun (j : Nat) => [(19, .int .i64 j)]) (fun j => [own encLn A2 ls.length c2 ls, isCo hh d x [], blk bx (Pl.cfL d y) 28]) (fun j => j ≤ ls.length) (fun j => ls.length - j) 0 rfl (Nat.zero_le _) (by (repeat' (first | exact trivial | refine And.intro rfl ?_)); done) (fun h hs => hs) ?_
        intro j hj
        replace hj : j ≤ ls.length := hj
        by_cases hlt3 : j < ls.length
        · obtain ⟨q0, q1, q2⟩ := hgl _ (get_mem' (l := ls) (i := (j : Int)) (by omega) (by omega))
          obtain ⟨O, hO⟩ : ∃ O, (Cof.get ls (j : Int)).2 / 16 % d.co = O := ⟨_, rfl⟩
          have hof := of_spec ((Cof.get ls (j : Int)).2 / 16) d.co (by omega) (by omega) hco.1 hco.2
          have hO1 := Int.emod_nonneg ((Cof.get ls (j : Int)).2 / 16) (show d.co ≠ 0 by omega)
          have hO2 := Int.emod_lt_of_pos ((Cof.get ls (j : Int)).2 / 16) (show 0 < d.co by omega)
          rw [hO] at hof q2 hO1 hO2
          by_cases hj0 : 0 < j
          · have hne := nd_ne hnd hj0 hlt3
            repeat' (first | (refine XL_id ?_; first | refine XL_nil ?_ | (refine XG_load ?_; first | refine XL_load tt_ok 2 rfl rfl rfl rfl rfl rfl ?_ | refine XL_elof tt_ok 0 rfl rfl rfl (by omega) (by omega) rfl rfl rfl rfl ?_) | (refine XG_idx ?_; refine XL_idxo tt_ok 0 rfl rfl rfl rfl rfl rfl (by omega) (by omega) rfl ?_) | (refine XG_call ?_; first | (refine XL_op tt_ok rfl rfl ?_) | refine XL_fn hof rfl rfl (fun _ _ _ => trivial) ?_) | (refine XL_op tt_ok rfl rfl ?_; try (first | refine XL_int (wrap_i64 (by omega) (by omega)) ?_ | refine XL_int (quo_u64 (by omega) (by omega) (by omega)) ?_ | refine XL_dec_t (by omega) ?_))) | (refine XD_id ?_; first | (refine XD_thaw thaw ?_; refine XD_nil ?_) | (refine XD_id ?_; (first | (refine XD_gL rfl ?_; first | refine XD_sy rfl rfl rfl rfl rfl (XV_elW tt_ok rfl (rd_at 0 rfl hM) rfl (by omega) (by omega) rfl rfl rfl) rfl ?_ | refine XD_sy rfl rfl rfl rfl rfl (XV_el tt_ok rfl (rd_at 0 rfl hM) rfl (by omega) (by omega) rfl rfl rfl) rfl ?_ | refine XD_sy rfl rfl rfl rfl rfl (XV_elf tt_ok rfl (rd_at 0 rfl hM) rfl (by omega) (by omega) rfl rfl rfl) rfl ?_) | (refine XD_gI rfl ?_; refine XD_sy rfl rfl rfl rfl rfl (XV_idx tt_ok rfl rfl rfl rfl rfl (rd_at 0 rfl hM) (by omega) (by omega)) rfl ?_) | (refine XD_u rfl rfl ?_; refine XD_s rfl rfl rfl (XV_op tt_ok rfl) rfl ?_) | (refine XD_g rfl rfl ?_; first | refine XD_sy rfl rfl rfl rfl rfl (XV_op tt_ok rfl) rfl ?_ | refine XD_sy rfl rfl rfl rfl rfl (XV_eq eqLn rfl rfl) rfl ?_)); try (first | refine XD_int (wrap_i64 (by omega) (by omega)) ?_ | refine XD_int (rem_pos (by omega)) ?_ | refine XD_dec_t (by omega) ?_ | refine XD_dec_f (by omega) ?_))) | (refine X_id ?_; first | (refine X_drawS (id := 27) [0, 1, 2, 3, 4, 5, 6, 7, 8, 9, 10, 11, 12, 13, 14, 15, 16, 17, 18, 19, 20, 21, 22, 23, 24, 25, 26, 27, 28, 29, 30, 31, 32, 33, 34, 35] (fun _ => .s) 8 (by (repeat apply Split.blk); apply Split.frz; (repeat apply Split.blk); apply Split.keep; repeat' (first | exact Split.nil | apply Split.blk)) mixed (by decide +kernel) ?_; intro G hFG hM thaw; show XD _ _ _ _ _ _ [0, 1, 2, 3, 4, 5, 6, 7, 8, 9, 10, 11, 12, 13, 14, 15, 16, 17, 18, 19, 20, 21, 22, 23, 24, 25, 26, 27, 28, 29, 30, 31, 32, 33, 34, 35] _ _ _) | refine X_seq ?_ | (refine X_regionN (by repeat' (first | exact .nil | apply NL.cons)) ?_) | refine X_skip ?_ | refine X_block ?_ | refine X_cond_t rfl ?_ | refine X_cond_f rfl ?_) | (refine Y_id ?_; first | refine Y_then ?_ | refine Y_block_normal ?_))
            all_goals first
              | exact Y_again (j + 1) fun _ _ hf hs => ⟨hlt3, by show ls.length - (j + 1) < ls.length - j; omega, hf.sub (by (repeat' (first | exact trivial | refine And.intro rfl ?_)); done), hs.imp fun g hg => stars_only [1, 0, 0] rfl g hg⟩
              | (exfalso; omega)
              | (exfalso; exact hne (by assumption))
              | skip
            
          · obtain rfl : j = 0 := by omega
            repeat' (first | (refine XL_id ?_; first | refine XL_nil ?_ | (refine XG_load ?_; first | refine XL_load tt_ok 2 rfl rfl rfl rfl rfl rfl ?_ | refine XL_elof tt_ok 0 rfl rfl rfl (by omega) (by omega) rfl rfl rfl rfl ?_) | (refine XG_idx ?_; refine XL_idxo tt_ok 0 rfl rfl rfl rfl rfl rfl (by omega) (by omega) rfl ?_) | (refine XG_call ?_; first | (refine XL_op tt_ok rfl rfl ?_) | refine XL_fn hof rfl rfl (fun _ _ _ => trivial) ?_) | (refine XL_op tt_ok rfl rfl ?_; try (first | refine XL_int (wrap_i64 (by omega) (by omega)) ?_ | refine XL_int (quo_u64 (by omega) (by omega) (by omega)) ?_ | refine XL_dec_t (by omega) ?_))) | (refine XD_id ?_; first | (refine XD_thaw thaw ?_; refine XD_nil ?_) | refine XD_no rfl rfl rfl rfl rfl rfl ?_ | (refine XD_id ?_; (first | (refine XD_gL rfl ?_; refine XD_sy rfl rfl rfl rfl rfl (XV_elf tt_ok rfl (rd_at 0 rfl hM) rfl (by omega) (by omega) rfl rfl rfl) rfl ?_) | (refine XD_gI rfl ?_; refine XD_sy rfl rfl rfl rfl rfl (XV_idx tt_ok rfl rfl rfl rfl rfl (rd_at 0 rfl hM) (by omega) (by omega)) rfl ?_) | (refine XD_u rfl rfl ?_; refine XD_s rfl rfl rfl (XV_op tt_ok rfl) rfl ?_) | (refine XD_g rfl rfl ?_; refine XD_sy rfl rfl rfl rfl rfl (XV_op tt_ok rfl) rfl ?_)); try (first | refine XD_int (wrap_i64 (by omega) (by omega)) ?_ | refine XD_int (rem_pos (by omega)) ?_ | refine XD_dec_f (by omega) ?_))) | (refine X_id ?_; first | (refine X_drawS (id := 27) [0, 1, 2, 3, 4, 5, 6, 7, 8, 9, 10, 11, 12, 13, 14, 15, 16, 17, 18, 19, 20, 21, 22, 23, 24, 25, 26, 27, 28, 29, 30, 31, 32, 33, 34, 35] (fun _ => .s) 8 (by (repeat apply Split.blk); apply Split.frz; (repeat apply Split.blk); apply Split.keep; repeat' (first | exact Split.nil | apply Split.blk)) mixed (by decide +kernel) ?_; intro G hFG hM thaw; show XD _ _ _ _ _ _ [0, 1, 2, 3, 4, 5, 6, 7, 8, 9, 10, 11, 12, 13, 14, 15, 16, 17, 18, 19, 20, 21, 22, 23, 24, 25, 26, 27, 28, 29, 30, 31, 32, 33, 34, 35] _ _ _) | refine X_seq ?_ | (refine X_regionN (by repeat' (first | exact .nil | apply NL.cons)) ?_) | refine X_skip ?_ | refine X_block ?_ | refine X_cond_t rfl ?_ | refine X_cond_f rfl ?_) | (refine Y_id ?_; first | refine Y_then ?_ | refine Y_block_normal ?_))
            all_goals first
              | exact Y_again (0 + 1) fun _ _ hf hs => ⟨hlt3, by show ls.length - (0 + 1) < ls.length - 0; omega, hf.sub (by (repeat' (first | exact trivial | refine And.intro rfl ?_)); done), hs.imp fun g hg => stars_only [1, 0, 0] rfl g hg⟩
              | (exfalso; omega)
              | skip
            
        · repeat' (first | (refine XL_id ?_; first | refine XL_nil ?_ | (refine XG_load ?_; refine XL_load tt_ok 2 rfl rfl rfl rfl rfl rfl ?_) | (refine XL_op tt_ok rfl rfl ?_; refine XL_int (Eq.trans (wrap_i64 (by omega) (by omega)) hW) ?_) | (refine XL_op tt_ok rfl rfl ?_; try (first | refine XL_int (wrap_i64 (by omega) (by omega)) ?_ | refine XL_dec_t (by omega) ?_ | refine XL_dec_f (by omega) ?_))) | (refine X_id ?_; first | refine X_seq ?_ | (refine X_regionN (by repeat' (first | exact .nil | apply NL.cons)) ?_) | refine X_ret ?_ | refine X_exit ?_ | refine X_cond_f rfl ?_) | (refine Y_id ?_; first | refine Y_then ?_ | refine Y_then_exit ?_ | refine Y_block_hit ?_))
          all_goals first
            | exact Y_fn1 rfl rfl rfl
            | (exfalso; omega)
            | skip
          
  · rw [decide_eq_false hM] at hma
    have hnew := conew_no d y hd hf hdl hM
    refine Ctr.intro Try.func3 rfl rfl (by decide +kernel) fun F hpre => ?_
    obtain ⟨hcf, r1⟩ := hpre
    repeat' (first | (refine XL_id ?_; first | refine XL_nil ?_ | refine XL_guard_yes rfl rfl rfl ?_ | (refine XG_box ?_; (refine XL_box rfl (fun _ => rfl) (fun bx => ?_); refine XL_nB (by repeat' (first | exact .nil | apply NL.cons)) ?_)) | (refine XG_load ?_; refine XL_loadW tt_ok 0 rfl rfl rfl rfl rfl rfl ?_) | (refine XG_call ?_; first | refine XL_fn awake_spec rfl rfl (fun _ _ _ => trivial) ?_ | refine XL_fn hnew rfl rfl (fun g hg hL => hcf.le hg) ?_ | refine XL_fn hma rfl rfl (fun g hg hL => hcf.le hg) ?_) | (refine XL_op tt_ok rfl rfl ?_; try (refine XL_dec_t (by omega) ?_))) | (refine X_id ?_; first | refine X_seq ?_ | (refine X_regionN (by repeat' (first | exact .nil | apply NL.cons)) ?_) | refine X_skip ?_ | refine X_ret ?_ | refine X_cond_t rfl ?_ | refine X_cond_f rfl ?_) | (refine Y_id ?_; first | refine Y_then ?_ | refine Y_then_ret ?_))
    all_goals first
      | exact Y_fn1 rfl rfl rfl
      | (exfalso; omega)
      | skip
    
end Go.Proofs.Ythmllhihldbfoaa
