/- A step that is looked at page by page. -/
import Derived.Test.YtalkcemelegohaaLp
set_option linter.unusedVariables false
set_option maxRecDepth 100000
namespace Go.Proofs.Ytalkcemelegohaa
open Go.RowKit Go.Cof
open Vm (Rg encRg rgV atP mc)

/-- What a step comes to: what is wrong, the list, the heap, the pages. -/
structure Out where
  e : Int
  A : Option Addr
  m : Nat
  c : Nat
  l : List Rg
  h : Int
  xs : List Int
structure Out.Ok (o : Out) (i : Nat) : Prop where
  len : o.xs.length = 280
  m : o.m = o.l.length
  ok : o.e = 0 → Stp (i + 1) o.l o.h ∧ o.xs = seenL o.l
/-- What a step answers. -/
def OneR (i : Nat) (A : Option Addr) (m c : Nat) (l : List Rg) (h : Int) (v : Value) (L : List HProp) : Prop :=
  (v = .tuple #[.agg #[.slice A m c, iV h], arV (seenL l), .bool true] ∧ L = []) ∨
  ∃ A' m' c' l' h', Stp (i + 1) l' h' ∧ m' = l'.length ∧ v = .tuple #[.agg #[.slice A' m' c', iV h'], arV (seenL l'), .bool true] ∧ L = [own encRg A' m' c' l']
theorem hpv (xs : List Int) (hx : xs.length = 280) : partV Tt 55 (flat (Cof.encI .u8) xs) 0 = some (arV xs) := partV_all rfl hx rfl rfl rfl
theorem flat280 {xs : List Int} (hx : xs.length = 280) : (flat (Cof.encI .u8) xs).length = 280 := by rw [flat_length, hx]; rfl
theorem three {x : Int} (h : 0 ≤ x) : x % 3 = 0 ∨ x % 3 = 1 ∨ x % 3 = 2 := by omega
theorem five (x : Int) : x % 5 = 0 ∨ x % 5 = 1 ∨ x % 5 = 2 ∨ x % 5 = 3 ∨ x % 5 = 4 := by omega
set_option maxHeartbeats 64000000 in
theorem one_spec (i : Nat) (hi : i < 40) (A : Option Addr) (m c : Nat) (l : List Rg) (h k p n q : Int) (hs : Stp i l h) (hm : m = l.length) (hmc : m ≤ c) (q0 : -9223372036854775808 ≤ k ∧ k ≤ 9223372036854775807) (q1 : -9223372036854775808 ≤ p ∧ p ≤ 9223372036854775807) (q2 : -9223372036854775808 ≤ n ∧ n ≤ 9223372036854775807) (q3 : 0 ≤ q ∧ q < 256) :
    Ctr Try.prog 27 [.agg #[.slice A m c, iV h], arV (seenL l), .agg #[iV k, iV p, iV n, bV q]] (fun g => rdS encRg g A m l) [] (OneR i A m c l h) := by
  have hnr := near_spec k p n q q1 q2
  have hw5 := Gx.within_spec k 5 q0.1 q0.2 (by omega) (by omega)
  have hw120 := Gx.within_spec n 120 q2.1 q2.2 (by omega) (by omega)
  have hlen8 := hs.good.fine.len
  have hgood := hs.good.fine.good
  have hin := rg_in hs.good.fine
  have hrh := hs.good.rng
  have hh := hs.hh
  have sl := seenL_length l
  have h3 := three q3.1
  refine Ctr.intro Try.func27 rfl rfl (by decide +kernel) fun F hpre => ?_
  have r1 : rdS encRg F.heap A m l := hpre
  repeat' (first | (refine XL_id ?_; (refine XG_box ?_; refine XL_box rfl (fun _ => rfl) (fun b3 => hold ?_))) | (refine X_id ?_; first | refine X_seq ?_ | (refine X_regionN (by repeat' (exact .nil)) ?_)))
  intro _
  refine XL_nB (by repeat' (first | exact .nil | apply NL.cons)) ?_
  refine XL_box rfl (fun _ => rfl) (fun b4 => ?_)
  refine XL_conv 0 (own (Cof.encI .u8) (some ⟨b4, 0, none⟩) 280 280 (seenL l)) rfl (fun h o => own_ar sl o) ?_
  refine XL_box rfl (fun _ => rfl) (fun b5 => ?_)
  refine XL_nB (by repeat' (first | exact .nil | apply NL.cons)) ?_
  refine XL_alloc tt_ok rfl rfl (fun _ => rfl) (fun b6 => ?_)
  refine XL_nB (by repeat' (first | exact .nil | apply NL.cons)) ?_
  refine XL_alloc tt_ok rfl rfl (fun _ => rfl) (fun b7 => ?_)
  repeat' (first | (refine XL_id ?_; first | refine XL_nil ?_ | (refine XG_load ?_; refine XL_loadW tt_ok 2 rfl rfl rfl rfl rfl rfl ?_) | (refine XG_call ?_; (refine XL_callK [] hnr rfl rfl (fun _ => rfl) (fun _ _ _ => trivial) (fun u L hv => ?_); obtain ⟨f, w, hnear, rfl, rfl⟩ := hv)) | (refine XL_op tt_ok rfl rfl ?_)) | (refine X_id ?_; first | refine X_cutD (c := .region 2 _ _) [3, 4, 5, 6, 7, 9, 10] (fun (pm : Int) => [(11, bV pm)]) (fun _ => [blk b7 (flat (Cof.encI .u8) (List.replicate 280 0)) 55, blk b6 [.slice none 0 0, iV 0] 24, blk b5 [iV k, iV p, iV n, bV q] 26, own (Cof.encI .u8) (some ⟨b4, 0, none⟩) 280 280 (seenL l), blk b3 [.slice A m c, iV h] 24]) (fun pm => pm = 0 ∨ pm = 1 ∨ pm = 3) rfl (hold ?_) (fun pm hpm => hold ?_) | refine X_seq ?_ | (refine X_regionN (by repeat' (first | exact .nil | apply NL.cons)) ?_)) | (refine Y_id ?_; refine Y_then ?_))
  · intro _
    rcases h3 with hq3 | hq3 | hq3
    all_goals (
      repeat' (first | (refine XL_id ?_; first | refine XL_nil ?_ | (refine XG_load ?_; first | refine XL_load tt_ok 0 rfl rfl rfl rfl rfl rfl ?_ | refine XL_load tt_ok 3 rfl rfl rfl rfl rfl rfl ?_) | (refine XG_idx ?_; refine XL_idxl tt_ok rfl rfl rfl rfl rfl (by omega) (by omega) rfl ?_) | (refine XG_lit ?_; (refine XL_lit tt_ok rfl rfl rfl rfl rfl rfl rfl rfl rfl (fun _ => rfl) (fun b => ?_); refine XL_nB (by repeat' (first | exact .nil | apply NL.cons)) ?_)) | (refine XL_op tt_ok rfl rfl ?_; refine XL_int (rem_pos (by omega)) ?_; refine XL_int hq3 ?_) | (refine XL_op tt_ok rfl rfl ?_)) | (refine X_id ?_; (refine X_regionN (by repeat' (first | exact .nil | apply NL.cons)) ?_)))
      all_goals first
        | have _ := (hq3 : q % 3 = 0); exact Y_again 0 fun _ _ hf hs => ⟨.inl rfl, hf.sub (by (repeat' (first | exact trivial | refine And.intro rfl ?_)); done), hs.imp fun h hs => stars_only [1, 1, 1, 1, 1] rfl h hs⟩
        | have _ := (hq3 : q % 3 = 1); exact Y_again 1 fun _ _ hf hs => ⟨.inr (.inl rfl), hf.sub (by (repeat' (first | exact trivial | refine And.intro rfl ?_)); done), hs.imp fun h hs => stars_only [1, 1, 1, 1, 1] rfl h hs⟩
        | have _ := (hq3 : q % 3 = 2); exact Y_again 3 fun _ _ hf hs => ⟨.inr (.inr rfl), hf.sub (by (repeat' (first | exact trivial | refine And.intro rfl ?_)); done), hs.imp fun h hs => stars_only [1, 1, 1, 1, 1] rfl h hs⟩
        | skip
      
    )
  · intro _
    refine Y_then ?_
    have hdr : List.take 280 (List.drop 0 (seenL l)) = seenL l := by rw [List.drop_zero, List.take_of_length_le (by omega)]
    repeat' ((refine X_id ?_; first | refine X_cutD (c := .region 3 _ _) [3, 4, 5, 6, 7, 9, 10, 11] (fun (j : Nat × Nat) => [(12, .pointer (some ⟨j.1, 0, none⟩)), (15, .pointer (some ⟨j.2, 0, none⟩)), (13, iV 0), (14, iV 0)]) (fun j => [blk j.1 [.slice A m c, iV h] 24, blk j.2 (flat (Cof.encI .u8) (seenL l)) 55, blk b7 (flat (Cof.encI .u8) (List.replicate 280 0)) 55, blk b6 [.slice none 0 0, iV 0] 24, blk b5 [iV k, iV p, iV n, bV q] 26, own (Cof.encI .u8) (some ⟨b4, 0, none⟩) 280 280 (seenL l), blk b3 [.slice A m c, iV h] 24]) (fun _ => True) rfl (hold ?_) (fun j _ => hold ?_) | refine X_seq ?_))
    · intro _
      repeat' (first | (refine XL_id ?_; first | refine XL_nil ?_ | (refine XG_alloc ?_; first | refine XL_alloc (et := 24) tt_ok rfl rfl (fun _ => rfl) (fun b12 => ?_) | refine XL_alloc (et := 55) tt_ok rfl rfl (fun _ => rfl) (fun b15 => ?_)) | (refine XG_store ?_; first | refine XL_storeA tt_ok 0 rfl rfl rfl rfl (flat280 sl) rfl (flat_one _ _) ?_ | refine XL_storeA tt_ok 1 rfl rfl rfl rfl (flat280 sl) rfl (flat_one _ _) ?_ | (refine XL_storeW tt_ok 0 rfl rfl rfl rfl rfl rfl rfl ?_; refine XL_nK 0 rfl (by repeat' (first | exact .nil | apply NL.cons)) ?_) | (refine XL_storeW tt_ok 1 rfl rfl rfl rfl rfl rfl rfl ?_; refine XL_nK 1 rfl (by repeat' (first | exact .nil | apply NL.cons)) ?_))) | (refine XD_id ?_; first | refine XD_nil ?_ | (refine XD_id ?_; (first | (refine XD_uL rfl ?_; first | refine XD_s rfl rfl rfl (XV_loadW tt_ok rfl (blk_at 4 rfl hM) rfl rfl rfl) rfl ?_ | refine XD_s rfl rfl rfl (XV_loadA tt_ok rfl (rd_at 3 rfl hM) rfl rfl rfl rfl rfl) rfl ?_) | (refine XD_u rfl rfl ?_; refine XD_s rfl rfl rfl (XV_op tt_ok rfl) rfl ?_))) | refine XD_m rfl rfl ?_ | (refine XD_thaw thaw ?_; refine XD_l rfl rfl ?_)) | (refine X_id ?_; (refine X_drawW (id := 3) ⟨[0, 1], 2, [3, 4, 5, 6, 7]⟩ ⟨[0, 1], 3, [2, 4, 5, 6, 7]⟩ (fun | 2 => .m | 3 => .m | 4 => .m | 7 => .l | _ => .s) 8 (by (repeat apply Split.blk); apply Split.frz; repeat' (first | exact Split.nil | apply Split.blk)) mixed (by decide +kernel) ?_ ?_ <;> (intro G hFG hM thaw; (first | show XD _ _ _ _ _ _ [0, 1, 2, 3, 4, 5, 6, 7] _ _ _ | show XD _ _ _ _ _ _ [0, 1, 3, 2, 4, 5, 6, 7] _ _ _)))) | (refine Y_id ?_; first | refine Y_m ?_ | refine Y_l ?_))
      all_goals first
        | exact Y_again (b12, b15) fun _ _ hf hs => ⟨trivial, hf.sub (by (repeat' (first | exact trivial | refine And.intro rfl ?_)); done), hs.imp fun h hs => stars_only [0, 0, 0, 0, 0, 0, 0] rfl h hs⟩
        | exact Y_again (b12, b15) fun _ _ hf hs => ⟨trivial, hf.sub (by (repeat' (first | exact trivial | refine And.intro rfl ?_)); done), hs.imp fun h hs => stars_only [1, 0, 0, 0, 0, 0, 0] rfl h hs⟩
        | skip
      
    · intro _
      refine Y_then ?_
      obtain ⟨b12, b15⟩ := j; dsimp only
      have hpm' : 0 ≤ pm ∧ pm ≤ 3 := by omega
      have f1 := hnear.nn; have f2 := hnear.ff
      have hc1 := changed_spec (seenL l) sl f w (1 + pm) (by omega) (by omega) (by omega)
      have hc0 := changed_spec (seenL l) sl f w 0 (by omega) (by omega) (by omega)
      have hso := some_spec l hgood f w hnear.vis
      have hmw := mc_rng l f w (by omega)
      have h5 := five k
      obtain ⟨kk, hkk⟩ : ∃ x, k % 5 = x := ⟨_, rfl⟩
      rw [hkk] at hw5 h5
      repeat' (first | (refine XL_id ?_; first | refine XL_nil ?_ | (refine XG_load ?_; refine XL_load tt_ok 4 rfl rfl rfl rfl rfl rfl ?_) | (refine XG_call ?_; refine XL_fn hw5 rfl rfl (fun _ _ _ => trivial) ?_) | (refine XL_op tt_ok rfl rfl ?_)) | (refine X_id ?_; first | refine X_cutD (c := .block 0 _) [3, 4, 6, 7, 12, 15] (fun (o : Out) => [(13, iV o.e), (14, iV o.e)]) (fun o => [own encRg o.A o.m o.c o.l, blk b12 [.slice o.A o.m o.c, iV o.h] 24, blk b15 (flat (Cof.encI .u8) o.xs) 55, blk b7 (flat (Cof.encI .u8) (List.replicate 280 0)) 55, blk b6 [.slice none 0 0, iV 0] 24, blk b5 [iV k, iV p, iV n, bV q] 26, own (Cof.encI .u8) (some ⟨b4, 0, none⟩) 280 280 (seenL l), blk b3 [.slice A m c, iV h] 24]) (fun o => o.Ok i) rfl (hold ?_) (fun o ho => hold ?_) | refine X_seq ?_ | (refine X_regionN (by repeat' (first | exact .nil | apply NL.cons)) ?_)) | (refine Y_id ?_; refine Y_then ?_))
      · intro _
        rcases h5 with rfl | rfl | rfl | rfl | rfl
        · have hmp := map_spec A m c l h f w pm (by omega) hmc hin (by omega) (by omega) (by omega)
          obtain ⟨s1, s2⟩ := step_map hs hi hnear hpm
          by_cases h0 : mc l f w.toNat = 0
          · obtain ⟨a, ha, hst, hch⟩ := s1 h0
            rw [ha] at hmp
            repeat' (first | (refine XL_id ?_; first | refine XL_nil ?_ | (refine XG_load ?_; first | refine XL_loadW tt_ok 6 rfl rfl rfl rfl rfl rfl ?_ | (refine XL_loadA tt_ok 6 rfl rfl rfl (by omega) rfl rfl rfl rfl ?_; rw [hdr])) | (refine XG_call ?_; first | (refine XL_callK [] hmp rfl rfl (fun _ => rfl) (fun g hg hL => r1.le hg) (fun u L hv => ?_); obtain ⟨A8, m8, c8, hm8, rfl, rfl⟩ := MRes.ex hv) | refine XL_fn hc1 rfl rfl (fun _ _ _ => trivial) ?_ | refine XL_fn hso rfl rfl (fun _ _ _ => trivial) ?_) | (refine XG_store ?_; first | refine XL_storeA tt_ok 2 rfl rfl rfl rfl (flat280 (chg_length ..)) (flat280 sl) (flat_one _ _) ?_ | (refine XL_storeW tt_ok 1 rfl rfl rfl rfl rfl rfl rfl ?_; refine XL_nK 1 rfl (by repeat' (first | exact .nil | apply NL.cons)) ?_)) | (refine XL_op tt_ok rfl rfl ?_; try (first | refine XL_int (wrap_u8 (by omega) (by omega)) ?_ | refine XL_dec_t (by omega) ?_ | refine XL_dec_f (by omega) ?_))) | (refine X_id ?_; first | refine X_seq ?_ | (refine X_regionN (by repeat' (first | exact .nil | apply NL.cons)) ?_) | refine X_skip ?_ | refine X_block ?_ | refine X_cond_t rfl ?_ | refine X_cond_f rfl ?_) | (refine Y_id ?_; first | refine Y_then ?_ | refine Y_block_normal ?_))
            all_goals first
              | exact Y_again ⟨0, A8, m8, c8, a, h, chg (seenL l) f w (1 + pm)⟩ fun _ _ hf hs => ⟨⟨chg_length .., hm8, fun _ => ⟨hst, hch⟩⟩, hf.sub (by (repeat' (first | exact trivial | refine And.intro rfl ?_)); done), hs.imp fun h hs => stars_only [0, 0, 0, 0, 0, 0, 0, 0] rfl h hs⟩
              | (exfalso; omega)
              | (rename_i h9; exact absurd rfl h9)
              | skip
            
          · rw [s2 h0] at hmp
            repeat' (first | (refine XL_id ?_; first | refine XL_nil ?_ | (refine XG_load ?_; first | refine XL_loadW tt_ok 6 rfl rfl rfl rfl rfl rfl ?_ | (refine XL_loadA tt_ok 6 rfl rfl rfl (by omega) rfl rfl rfl rfl ?_; rw [hdr])) | (refine XG_call ?_; first | (refine XL_callK [] hmp rfl rfl (fun _ => rfl) (fun g hg hL => r1.le hg) (fun u L hv => ?_); obtain ⟨A8, m8, c8, hm8, rfl, rfl⟩ := MRes.ex hv) | refine XL_fn hc1 rfl rfl (fun _ _ _ => trivial) ?_ | refine XL_fn hso rfl rfl (fun _ _ _ => trivial) ?_) | (refine XG_store ?_; first | refine XL_storeA tt_ok 2 rfl rfl rfl rfl (flat280 (chg_length ..)) (flat280 sl) (flat_one _ _) ?_ | (refine XL_storeW tt_ok 1 rfl rfl rfl rfl rfl rfl rfl ?_; refine XL_nK 1 rfl (by repeat' (first | exact .nil | apply NL.cons)) ?_)) | (refine XL_op tt_ok rfl rfl ?_; try (first | refine XL_int (wrap_u8 (by omega) (by omega)) ?_ | refine XL_dec_t (by omega) ?_))) | (refine X_id ?_; first | refine X_seq ?_ | (refine X_regionN (by repeat' (first | exact .nil | apply NL.cons)) ?_) | refine X_block ?_ | refine X_cond_t rfl ?_) | (refine Y_id ?_; first | refine Y_then ?_ | refine Y_block_normal ?_))
            all_goals first
              | exact Y_again ⟨171, A8, m8, c8, [], 0, chg (seenL l) f w (1 + pm)⟩ fun _ _ hf hs => ⟨⟨chg_length .., hm8, fun h => absurd (show (171 : Int) = 0 from h) (by decide)⟩, hf.sub (by (repeat' (first | exact trivial | refine And.intro rfl ?_)); done), hs.imp fun h hs => stars_only [0, 0, 0, 0, 0, 0, 0, 0] rfl h hs⟩
              | (exfalso; omega)
              | (rename_i h9; exact absurd rfl h9)
              | skip
            
        · obtain ⟨a, g, ha, hst, hch, g1, g2, g3, g4⟩ := step_gap (h := h) hs hi hnear.nn hpm
          have hmp := map_spec A m c l h 0 w pm (by omega) hmc hin (by omega) (by omega) (by omega)
          rw [ha] at hmp
          have hcg := changed_spec (seenL l) sl g w (1 + pm) (by omega) (by omega) (by omega)
          repeat' (first | (refine XL_id ?_; first | refine XL_nil ?_ | (refine XG_load ?_; refine XL_loadW tt_ok 6 rfl rfl rfl rfl rfl rfl ?_) | (refine XG_call ?_; (refine XL_callK [] hmp rfl rfl (fun _ => rfl) (fun g hg hL => r1.le hg) (fun u L hv => ?_); obtain ⟨A8, m8, c8, hm8, rfl, rfl⟩ := MRes.ex hv)) | (refine XG_store ?_; (refine XL_storeW tt_ok 1 rfl rfl rfl rfl rfl rfl rfl ?_; refine XL_nK 1 rfl (by repeat' (first | exact .nil | apply NL.cons)) ?_)) | (refine XL_op tt_ok rfl rfl ?_; try (first | refine XL_dec_t (by omega) ?_ | refine XL_dec_f (by omega) ?_))) | (refine X_id ?_; first | refine X_cutD (c := .block 1 _) [3, 4, 5, 6, 7, 9, 10, 11, 12, 13, 14, 15, 17, 35] (fun (_ : Unit) => []) (fun _ => [own encRg A8 m8 c8 a, blk b12 [.slice A8 m8 c8, iV h] 24, blk b15 (flat (Cof.encI .u8) (seenL l)) 55, blk b7 (flat (Cof.encI .u8) (List.replicate 280 0)) 55, blk b6 [.slice none 0 0, iV 0] 24, blk b5 [iV k, iV p, iV n, bV q] 26, own (Cof.encI .u8) (some ⟨b4, 0, none⟩) 280 280 (seenL l), blk b3 [.slice A m c, iV h] 24]) (fun _ => True) rfl (hold ?_) (fun _ _ => hold ?_) | refine X_seq ?_ | (refine X_regionN (by repeat' (first | exact .nil | apply NL.cons)) ?_) | refine X_block ?_ | refine X_cond_t rfl ?_ | refine X_cond_f rfl ?_) | (refine Y_id ?_; refine Y_then ?_))
          · intro _
            refine X_block ?_
            refine X_loopD [3, 4, 5, 6, 7, 9, 10, 11, 12, 13, 14, 15, 17, 35] (fun (z : Int) => [(18, iV z)]) (fun _ => [own encRg A8 m8 c8 a, blk b12 [.slice A8 m8 c8, iV h] 24, blk b15 (flat (Cof.encI .u8) (seenL l)) 55, blk b7 (flat (Cof.encI .u8) (List.replicate 280 0)) 55, blk b6 [.slice none 0 0, iV 0] 24, blk b5 [iV k, iV p, iV n, bV q] 26, own (Cof.encI .u8) (some ⟨b4, 0, none⟩) 280 280 (seenL l), blk b3 [.slice A m c, iV h] 24]) (fun z => 1 ≤ z ∧ z ≤ 600000) (fun z => (600000 - z).toNat) 1 rfl ⟨by omega, by omega⟩ (by (repeat' (first | exact trivial | refine And.intro rfl ?_)); done) (fun h hs => stars_only [0, 0, 0, 0, 0, 0, 0, 0] rfl h hs) ?_
            intro z hz
            obtain ⟨z1, z2⟩ := hz
            by_cases hlt : z < g ∧ z < 120 - w
            · have hnz := g4 z z1 hlt.1
              have hsz := some_spec l hgood z w (by unfold Vis; omega)
              repeat' (first | (refine XL_id ?_; first | refine XL_nil ?_ | refine XL_guard_yes rfl rfl rfl ?_ | (refine XG_load ?_; (refine XL_loadA tt_ok 6 rfl rfl rfl (by omega) rfl rfl rfl rfl ?_; rw [hdr])) | (refine XG_call ?_; refine XL_fn hsz rfl rfl (fun _ _ _ => trivial) ?_) | (refine XL_op tt_ok rfl rfl ?_; try (first | refine XL_int (wrap_i64 (by omega) (by omega)) ?_ | refine XL_dec_t (by omega) ?_ | refine XL_dec_f (by omega) ?_))) | (refine X_id ?_; first | refine X_seq ?_ | (refine X_regionN (by repeat' (first | exact .nil | apply NL.cons)) ?_) | refine X_skip ?_ | refine X_block ?_ | refine X_cond_t rfl ?_ | refine X_cond_f rfl ?_) | (refine Y_id ?_; first | refine Y_then ?_ | refine Y_block_normal ?_))
              all_goals first
                | exact Y_again (z + 1) fun _ _ hf hs => ⟨⟨by show 1 ≤ z + 1; omega, by show z + 1 ≤ 600000; omega⟩, by show (600000 - (z + 1)).toNat < (600000 - z).toNat; omega, hf.sub (by (repeat' (first | exact trivial | refine And.intro rfl ?_)); done), hs⟩
                | (exfalso; omega)
                | skip
              
            · repeat' (first | (refine XL_id ?_; first | refine XL_nil ?_ | refine XL_guard_yes rfl rfl rfl ?_ | refine XL_guard_no rfl rfl rfl rfl rfl ?_ | (refine XL_op tt_ok rfl rfl ?_; try (first | refine XL_int (wrap_i64 (by omega) (by omega)) ?_ | refine XL_dec_f (by omega) ?_ | refine XL_dec (fun _ => ?_) (fun _ => ?_)))) | (refine X_id ?_; first | refine X_seq ?_ | (refine X_regionN (by repeat' (first | exact .nil | apply NL.cons)) ?_) | refine X_exit ?_ | refine X_cond_f rfl ?_) | (refine Y_id ?_; first | refine Y_then ?_ | refine Y_then_exit ?_ | refine Y_block_hit ?_))
              all_goals first
                | exact Y_again () fun _ _ hf hs => ⟨trivial, hf.sub (by (repeat' (first | exact trivial | refine And.intro rfl ?_)); done), hs⟩
                | (exfalso; omega)
                | skip
              
          · intro _
            refine Y_then ?_
            repeat' (first | (refine XL_id ?_; first | refine XL_nil ?_ | refine XL_guard_yes rfl rfl rfl ?_ | refine XL_guard_no rfl rfl rfl rfl rfl ?_ | (refine XG_load ?_; (refine XL_loadA tt_ok 6 rfl rfl rfl (by omega) rfl rfl rfl rfl ?_; rw [hdr])) | (refine XG_call ?_; first | (refine XL_fn (some_spec l hgood g w (by unfold Vis; omega)) rfl rfl (fun _ _ _ => trivial) ?_) | refine XL_fn hcg rfl rfl (fun _ _ _ => trivial) ?_) | (refine XG_store ?_; refine XL_storeA tt_ok 2 rfl rfl rfl rfl (flat280 (chg_length ..)) (flat280 sl) (flat_one _ _) ?_) | (refine XL_op tt_ok rfl rfl ?_; try (first | refine XL_int (wrap_i64 (by omega) (by omega)) ?_ | refine XL_int (wrap_u8 (by omega) (by omega)) ?_ | refine XL_dec_f (by omega) ?_ | refine XL_dec (fun _ => ?_) (fun _ => ?_)))) | (refine X_id ?_; first | refine X_seq ?_ | (refine X_regionN (by repeat' (first | exact .nil | apply NL.cons)) ?_) | refine X_skip ?_ | refine X_cond_f rfl ?_) | (refine Y_id ?_; first | refine Y_then ?_ | refine Y_block_normal ?_))
            all_goals first
              | exact Y_again ⟨0, A8, m8, c8, a, h, chg (seenL l) g w (1 + pm)⟩ fun _ _ hf hs => ⟨⟨chg_length .., hm8, fun _ => ⟨hst, hch⟩⟩, hf.sub (by (repeat' (first | exact trivial | refine And.intro rfl ?_)); done), hs.imp fun h hs => stars_only [0, 0, 0, 0, 0, 0, 0, 0] rfl h hs⟩
              | (exfalso; omega)
              | (rename_i h9; exact absurd rfl h9)
              | skip
            
        · obtain ⟨a, ha, hst, hch⟩ := step_unmap (h := h) hs hi hnear
          have hmp := unmap_spec A m c l h f w (by omega) hmc hin (by omega) (by omega)
          rw [ha] at hmp
          repeat' (first | (refine XL_id ?_; first | refine XL_nil ?_ | (refine XG_load ?_; first | refine XL_loadW tt_ok 6 rfl rfl rfl rfl rfl rfl ?_ | (refine XL_loadA tt_ok 6 rfl rfl rfl (by omega) rfl rfl rfl rfl ?_; rw [hdr])) | (refine XG_call ?_; first | (refine XL_callK [] hmp rfl rfl (fun _ => rfl) (fun g hg hL => r1.le hg) (fun u L hv => ?_); obtain ⟨A8, m8, c8, hm8, rfl, rfl⟩ := SRes.ex hv) | refine XL_fn hc0 rfl rfl (fun _ _ _ => trivial) ?_) | (refine XG_store ?_; first | refine XL_storeA tt_ok 2 rfl rfl rfl rfl (flat280 (chg_length ..)) (flat280 sl) (flat_one _ _) ?_ | (refine XL_storeW tt_ok 1 rfl rfl rfl rfl rfl rfl rfl ?_; refine XL_nK 1 rfl (by repeat' (first | exact .nil | apply NL.cons)) ?_)) | (refine XL_op tt_ok rfl rfl ?_; try (first | refine XL_dec_t (by omega) ?_ | refine XL_dec_f (by omega) ?_))) | (refine X_id ?_; first | refine X_seq ?_ | (refine X_regionN (by repeat' (first | exact .nil | apply NL.cons)) ?_) | refine X_block ?_ | refine X_cond_t rfl ?_ | refine X_cond_f rfl ?_) | (refine Y_id ?_; first | refine Y_then ?_ | refine Y_block_normal ?_))
          all_goals first
            | exact Y_again ⟨0, A8, m8, c8, a, h, chg (seenL l) f w 0⟩ fun _ _ hf hs => ⟨⟨chg_length .., hm8, fun _ => ⟨hst, hch⟩⟩, hf.sub (by (repeat' (first | exact trivial | refine And.intro rfl ?_)); done), hs.imp fun h hs => stars_only [0, 0, 0, 0, 0, 0, 0, 0] rfl h hs⟩
            | (exfalso; omega)
            | (rename_i h9; exact absurd rfl h9)
            | skip
          
        · have hmp := protect_spec A m c l h f w pm (by omega) hmc hin (by omega) (by omega)
          obtain ⟨s1, s2⟩ := step_protect (h := h) hs hi hnear hpm
          by_cases h0 : mc l f w.toNat = w
          · obtain ⟨a, ha, hst, hch⟩ := s1 h0
            rw [ha] at hmp
            repeat' (first | (refine XL_id ?_; first | refine XL_nil ?_ | (refine XG_load ?_; first | refine XL_loadW tt_ok 6 rfl rfl rfl rfl rfl rfl ?_ | (refine XL_loadA tt_ok 6 rfl rfl rfl (by omega) rfl rfl rfl rfl ?_; rw [hdr])) | (refine XG_call ?_; first | (refine XL_callK [] hmp rfl rfl (fun _ => rfl) (fun g hg hL => r1.le hg) (fun u L hv => ?_); obtain ⟨A8, m8, c8, hm8, rfl, rfl⟩ := SRes.ex hv) | refine XL_fn hc1 rfl rfl (fun _ _ _ => trivial) ?_ | refine XL_fn hso rfl rfl (fun _ _ _ => trivial) ?_) | (refine XG_store ?_; first | refine XL_storeA tt_ok 2 rfl rfl rfl rfl (flat280 (chg_length ..)) (flat280 sl) (flat_one _ _) ?_ | (refine XL_storeW tt_ok 1 rfl rfl rfl rfl rfl rfl rfl ?_; refine XL_nK 1 rfl (by repeat' (first | exact .nil | apply NL.cons)) ?_)) | (refine XL_op tt_ok rfl rfl ?_; try (first | refine XL_int (wrap_u8 (by omega) (by omega)) ?_ | refine XL_dec_t (by omega) ?_ | refine XL_dec_f (by omega) ?_))) | (refine X_id ?_; first | refine X_seq ?_ | (refine X_regionN (by repeat' (first | exact .nil | apply NL.cons)) ?_) | refine X_skip ?_ | refine X_block ?_ | refine X_cond_t rfl ?_ | refine X_cond_f rfl ?_) | (refine Y_id ?_; first | refine Y_then ?_ | refine Y_block_normal ?_))
            all_goals first
              | exact Y_again ⟨0, A8, m8, c8, a, h, chg (seenL l) f w (1 + pm)⟩ fun _ _ hf hs => ⟨⟨chg_length .., hm8, fun _ => ⟨hst, hch⟩⟩, hf.sub (by (repeat' (first | exact trivial | refine And.intro rfl ?_)); done), hs.imp fun h hs => stars_only [0, 0, 0, 0, 0, 0, 0, 0] rfl h hs⟩
              | (exfalso; omega)
              | (rename_i h9; exact absurd rfl h9)
              | skip
            
          · rw [s2 h0] at hmp
            repeat' (first | (refine XL_id ?_; first | refine XL_nil ?_ | (refine XG_load ?_; first | refine XL_loadW tt_ok 6 rfl rfl rfl rfl rfl rfl ?_ | (refine XL_loadA tt_ok 6 rfl rfl rfl (by omega) rfl rfl rfl rfl ?_; rw [hdr])) | (refine XG_call ?_; first | (refine XL_callK [] hmp rfl rfl (fun _ => rfl) (fun g hg hL => r1.le hg) (fun u L hv => ?_); obtain ⟨A8, m8, c8, hm8, rfl, rfl⟩ := SRes.ex hv) | refine XL_fn hc1 rfl rfl (fun _ _ _ => trivial) ?_ | refine XL_fn hso rfl rfl (fun _ _ _ => trivial) ?_) | (refine XG_store ?_; first | refine XL_storeA tt_ok 2 rfl rfl rfl rfl (flat280 (chg_length ..)) (flat280 sl) (flat_one _ _) ?_ | (refine XL_storeW tt_ok 1 rfl rfl rfl rfl rfl rfl rfl ?_; refine XL_nK 1 rfl (by repeat' (first | exact .nil | apply NL.cons)) ?_)) | (refine XL_op tt_ok rfl rfl ?_; try (first | refine XL_int (wrap_u8 (by omega) (by omega)) ?_ | refine XL_dec_t (by omega) ?_ | refine XL_dec_f (by omega) ?_))) | (refine X_id ?_; first | refine X_seq ?_ | (refine X_regionN (by repeat' (first | exact .nil | apply NL.cons)) ?_) | refine X_block ?_ | refine X_cond_t rfl ?_ | refine X_cond_f rfl ?_) | (refine Y_id ?_; first | refine Y_then ?_ | refine Y_block_normal ?_))
            all_goals first
              | exact Y_again ⟨170, A8, m8, c8, [], 0, chg (seenL l) f w (1 + pm)⟩ fun _ _ hf hs => ⟨⟨chg_length .., hm8, fun h => absurd (show (170 : Int) = 0 from h) (by decide)⟩, hf.sub (by (repeat' (first | exact trivial | refine And.intro rfl ?_)); done), hs.imp fun h hs => stars_only [0, 0, 0, 0, 0, 0, 0, 0] rfl h hs⟩
              | (exfalso; omega)
              | (rename_i h9; exact absurd rfl h9)
              | skip
            
        · have b120 : 0 ≤ n % 120 ∧ n % 120 < 120 := by omega
          obtain ⟨w2, hw2⟩ : ∃ x, n % 120 = x := ⟨_, rfl⟩
          rw [hw2] at hw120 b120
          have hmp := brk_spec A m c l h w2 (by omega) hmc hin (by omega)
          obtain ⟨s1, s2⟩ := step_brk (h := h) hs hi b120
          have k1 := changed_spec (seenL l) sl 524288 200 0 (by omega) (by omega) (by omega)
          have k2 := changed_spec (chg (seenL l) 524288 200 0) (chg_length ..) 524288 w2 4 (by omega) (by omega) (by omega)
          by_cases h0 : w2 ≤ h + 64 ∧ h - 64 ≤ w2
          · obtain ⟨a, ha, hst, hch⟩ := s1 h0
            rw [ha] at hmp
            repeat' (first | (refine XL_id ?_; first | refine XL_nil ?_ | refine XL_guard_yes rfl rfl rfl ?_ | (refine XG_load ?_; first | refine XL_loadW tt_ok 6 rfl rfl rfl rfl rfl rfl ?_ | refine XL_load tt_ok 4 rfl rfl rfl rfl rfl rfl ?_ | refine XL_load tt_ok 7 rfl rfl rfl rfl rfl rfl ?_ | (refine XL_loadA tt_ok 6 rfl rfl rfl (by omega) rfl rfl rfl rfl ?_; rw [hdr])) | (refine XG_call ?_; first | refine XL_fn hw120 rfl rfl (fun _ _ _ => trivial) ?_ | (refine XL_callK [] hmp rfl rfl (fun _ => rfl) (fun g hg hL => r1.le hg) (fun u L hv => ?_); obtain ⟨A8, m8, c8, hm8, rfl, rfl⟩ := SRes.ex hv) | refine XL_fn k1 rfl rfl (fun _ _ _ => trivial) ?_ | refine XL_fn k2 rfl rfl (fun _ _ _ => trivial) ?_) | (refine XG_store ?_; first | refine XL_storeA tt_ok 2 rfl rfl rfl rfl (flat280 (chg_length ..)) (flat280 sl) (flat_one _ _) ?_ | (refine XL_storeW tt_ok 1 rfl rfl rfl rfl rfl rfl rfl ?_; refine XL_nK 1 rfl (by repeat' (first | exact .nil | apply NL.cons)) ?_)) | (refine XL_op tt_ok rfl rfl ?_; try (first | refine XL_int (wrap_i64 (by omega) (by omega)) ?_ | refine XL_dec_f (by omega) ?_))) | (refine X_id ?_; first | refine X_seq ?_ | (refine X_regionN (by repeat' (first | exact .nil | apply NL.cons)) ?_) | refine X_skip ?_ | refine X_block ?_ | refine X_cond_f rfl ?_) | (refine Y_id ?_; first | refine Y_then ?_ | refine Y_block_normal ?_))
            all_goals first
              | exact Y_again ⟨0, A8, m8, c8, a, w2, chg (chg (seenL l) 524288 200 0) 524288 w2 4⟩ fun _ _ hf hs => ⟨⟨chg_length .., hm8, fun _ => ⟨hst, hch⟩⟩, hf.sub (by (repeat' (first | exact trivial | refine And.intro rfl ?_)); done), hs.imp fun h hs => stars_only [0, 0, 0, 0, 0, 0, 0, 0] rfl h hs⟩
              | (exfalso; omega)
              | (rename_i h9; exact absurd rfl h9)
              | skip
            
          · rw [s2 h0] at hmp
            repeat' (first | (refine XL_id ?_; first | refine XL_nil ?_ | refine XL_guard_yes rfl rfl rfl ?_ | refine XL_guard_no rfl rfl rfl rfl rfl ?_ | (refine XG_load ?_; first | refine XL_loadW tt_ok 6 rfl rfl rfl rfl rfl rfl ?_ | refine XL_load tt_ok 4 rfl rfl rfl rfl rfl rfl ?_ | refine XL_load tt_ok 7 rfl rfl rfl rfl rfl rfl ?_ | (refine XL_loadA tt_ok 6 rfl rfl rfl (by omega) rfl rfl rfl rfl ?_; rw [hdr])) | (refine XG_call ?_; first | refine XL_fn hw120 rfl rfl (fun _ _ _ => trivial) ?_ | (refine XL_callK [] hmp rfl rfl (fun _ => rfl) (fun g hg hL => r1.le hg) (fun u L hv => ?_); obtain ⟨A8, m8, c8, hm8, rfl, rfl⟩ := SRes.ex hv) | refine XL_fn k1 rfl rfl (fun _ _ _ => trivial) ?_ | refine XL_fn k2 rfl rfl (fun _ _ _ => trivial) ?_) | (refine XG_store ?_; first | refine XL_storeA tt_ok 2 rfl rfl rfl rfl (flat280 (chg_length ..)) (flat280 sl) (flat_one _ _) ?_ | (refine XL_storeW tt_ok 1 rfl rfl rfl rfl rfl rfl rfl ?_; refine XL_nK 1 rfl (by repeat' (first | exact .nil | apply NL.cons)) ?_)) | (refine XL_op tt_ok rfl rfl ?_; try (first | refine XL_int (wrap_i64 (by omega) (by omega)) ?_ | refine XL_dec_t (by omega) ?_ | refine XL_dec_f (by omega) ?_ | refine XL_dec (fun _ => ?_) (fun _ => ?_)))) | (refine X_id ?_; first | refine X_seq ?_ | (refine X_regionN (by repeat' (first | exact .nil | apply NL.cons)) ?_) | refine X_block ?_ | refine X_cond_t rfl ?_ | refine X_cond_f rfl ?_) | (refine Y_id ?_; first | refine Y_then ?_ | refine Y_block_normal ?_))
            all_goals first
              | exact Y_again ⟨2, A8, m8, c8, [], 0, chg (chg (seenL l) 524288 200 0) 524288 w2 4⟩ fun _ _ hf hs => ⟨⟨chg_length .., hm8, fun h => absurd (show (2 : Int) = 0 from h) (by decide)⟩, hf.sub (by (repeat' (first | exact trivial | refine And.intro rfl ?_)); done), hs.imp fun h hs => stars_only [0, 0, 0, 0, 0, 0, 0, 0] rfl h hs⟩
              | (exfalso; omega)
              | (rename_i h9; exact absurd rfl h9)
              | skip
            
      · intro _
        refine Y_then ?_
        obtain ⟨oe, oA, om, oc, ol, oh, ox⟩ := o; dsimp only
        have hxl : ox.length = 280 := ho.len
        have hom : om = ol.length := ho.m
        have hok : oe = 0 → Stp (i + 1) ol oh ∧ ox = seenL ol := ho.ok
        refine X_conv 2 (own (Cof.encI .u8) (some ⟨b15, 0, none⟩) 280 280 ox) rfl (fun h o => own_of_blk o hxl.symm rfl (by decide)) ?_
        by_cases he : oe = 0
        · obtain ⟨hst, hch⟩ := hok he
          subst hch
          repeat' (first | (refine XL_id ?_; first | refine XL_nil ?_ | (refine XG_store ?_; first | refine XL_storeA tt_ok 1 rfl rfl rfl rfl (flat280 (seenL_length ol)) rfl (flat_one _ _) ?_ | (refine XL_storeW tt_ok 2 rfl rfl rfl rfl rfl rfl rfl ?_; refine XL_nK 2 rfl (by repeat' (first | exact .nil | apply NL.cons)) ?_)) | (refine XL_op tt_ok rfl rfl ?_; try (refine XL_dec_f (by omega) ?_))) | (refine XD_id ?_; first | (refine XD_thaw thaw ?_; refine XD_nil ?_) | (refine XD_id ?_; (first | (refine XD_uL rfl ?_; first | refine XD_s rfl rfl rfl (XV_loadW tt_ok rfl (blk_at 0 rfl hM) rfl rfl rfl) rfl ?_ | refine XD_s rfl rfl rfl (XV_loadA tt_ok rfl (rd_at 1 rfl hM) rfl rfl rfl rfl rfl) rfl ?_) | (refine XD_u rfl rfl ?_; refine XD_s rfl rfl rfl (XV_op tt_ok rfl) rfl ?_))) | refine XD_m rfl rfl ?_) | (refine X_id ?_; first | (refine X_draw (id := 41) [0, 1, 2, 3, 4] (fun | 2 => .m | 3 => .m | _ => .s) (fun _ => false) 8 [1, 1] rfl mixed (by decide +kernel) ?_; intro G hFG hM thaw; show XD _ _ _ _ _ _ [0, 1, 2, 3, 4] _ _ _) | refine X_seq ?_ | (refine X_regionN (by repeat' (first | exact .nil | apply NL.cons)) ?_) | refine X_skip ?_ | refine X_ret ?_ | refine X_cond_f rfl ?_) | (refine Y_id ?_; first | refine Y_then ?_ | refine Y_m ?_))
          all_goals first
            | (exfalso; omega)
            | (rename_i h9; exact absurd rfl h9)
            | exact Y_res3 rfl (.cell tt_ok 2 rfl rfl rfl rfl rfl) (.cell tt_ok 1 rfl rfl rfl (hpv _ (seenL_length ol)) (by rw [flat280 (seenL_length ol)]; rfl)) (.tmp rfl) (stars_fin1 0 rfl) (.inr ⟨oA, om, oc, ol, oh, hst, hom, rfl, rfl⟩)
            | skip
          
        · repeat' (first | (refine XL_id ?_; first | refine XL_nil ?_ | (refine XG_store ?_; first | refine XL_storeA tt_ok 3 rfl rfl rfl rfl (flat280 sl) rfl (flat_one _ _) ?_ | (refine XL_storeW tt_ok 4 rfl rfl rfl rfl rfl rfl rfl ?_; refine XL_nK 4 rfl (by repeat' (first | exact .nil | apply NL.cons)) ?_)) | (refine XL_op tt_ok rfl rfl ?_; try (first | refine XL_dec_t (by omega) ?_ | refine XL_dec_f (by omega) ?_))) | (refine XD_id ?_; first | (refine XD_thaw thaw ?_; refine XD_nil ?_) | (refine XD_id ?_; (first | (refine XD_uL rfl ?_; first | refine XD_s rfl rfl rfl (XV_loadW tt_ok rfl (blk_at 1 rfl hM) rfl rfl rfl) rfl ?_ | refine XD_s rfl rfl rfl (XV_loadA tt_ok rfl (rd_at 0 rfl hM) rfl rfl rfl rfl rfl) rfl ?_) | (refine XD_u rfl rfl ?_; refine XD_s rfl rfl rfl (XV_op tt_ok rfl) rfl ?_))) | refine XD_m rfl rfl ?_) | (refine X_id ?_; first | (refine X_draw (id := 40) [0, 1, 2, 3, 4] (fun | 2 => .m | 3 => .m | _ => .s) (fun _ => false) 8 [6, 6] rfl mixed (by decide +kernel) ?_; intro G hFG hM thaw; show XD _ _ _ _ _ _ [0, 1, 2, 3, 4] _ _ _) | refine X_seq ?_ | (refine X_regionN (by repeat' (first | exact .nil | apply NL.cons)) ?_) | refine X_skip ?_ | refine X_ret ?_ | refine X_cond_t rfl ?_ | refine X_cond_f rfl ?_) | (refine Y_id ?_; first | refine Y_then ?_ | refine Y_then_ret ?_ | refine Y_m ?_))
          all_goals first
            | (exfalso; omega)
            | (rename_i h9; exact absurd rfl h9)
            | exact Y_res3 rfl (.cell tt_ok 4 rfl rfl rfl rfl rfl) (.cell tt_ok 3 rfl rfl rfl (hpv _ sl) (by rw [flat280 sl]; rfl)) (.tmp rfl) (L' := []) (fun _ _ => trivial) (.inl ⟨rfl, rfl⟩)
            | skip
          
end Go.Proofs.Ytalkcemelegohaa
