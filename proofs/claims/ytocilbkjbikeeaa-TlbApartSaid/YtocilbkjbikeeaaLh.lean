/- The law TlbApart, walked. -/
import Derived.Test.YtocilbkjbikeeaaLe
import Derived.Test.YtocilbkjbikeeaaPc
import Derived.Test.YtocilbkjbikeeaaSlW
set_option linter.unusedVariables false
namespace Go.Proofs.Ytocilbkjbikeeaa
open Go.RowKit Go.Cof

/-- What another one's step brings the translation to. -/
def other (y : Tr) : Tr := ⟨6 + y.a % 100, y.p % 1048576, y.f % 4096, y.r, y.w, y.d⟩
theorem other_ask (y : Tr) : askE (6 + y.a % 100) (y.p % 1048576) = 0 := by unfold askE; rw [if_pos (by omega)]
theorem other_ask0 (y : Tr) : askE (6 + y.a % 100) 0 = 0 := by unfold askE; rw [if_pos (by omega)]
theorem other_fill (y : Tr) : fillE (other y) = 0 := by
  unfold fillE
  rw [show askE (other y).a (other y).p = 0 from other_ask y, if_pos rfl, if_pos (by show 0 ≤ y.f % 4096 ∧ y.f % 4096 < 4096; omega)]
theorem other_five (y : Tr) : ¬ (6 + y.a % 100 : Int) = 5 := by omega
structure Five (zs : List Tr) (K i : Nat) (ys : List Tr) : Prop where
  ok : TOk 64 ys
  five : five ys = mineL zs K
  len : ys.length ≤ 20 + i
theorem Five.step {zs ys : List Tr} {K i : Nat} (h : Five zs K i ys) (hi : i < 40) (y : Tr) : Five zs K (i + 1) (markT (fillT 64 ys (other y)) (6 + y.a % 100) (y.p % 1048576)) := by
  have hl := h.len
  have h1 := five_fill (x := other y) (ys := ys) (other_five y) (by omega)
  have h2 := five_mark (other_five y) (y.p % 1048576) (fillT 64 ys (other y))
  exact ⟨(h.ok.fillT _).markT _ _, by rw [h2.1, h1.1, h.five], by rw [h2.2]; omega⟩
theorem Five.drop {zs ys : List Tr} {K i : Nat} (h : Five zs K i ys) (y : Tr) : Five zs K i (dropT ys (6 + y.a % 100) (y.p % 1048576)) := by
  have h2 := five_drop (other_five y) (y.p % 1048576) ys
  exact ⟨h.ok.dropT _ _, by rw [h2.1, h.five], Nat.le_trans h2.2 h.len⟩
theorem Five.dall {zs ys : List Tr} {K i : Nat} (h : Five zs K i ys) (y : Tr) : Five zs K i (dallT ys (6 + y.a % 100)) := by
  have h2 := five_dall (other_five y) ys
  exact ⟨h.ok.dallT _, by rw [h2.1, h.five], Nat.le_trans h2.2 h.len⟩
theorem dall5_is (p : Nat) {zs ys : List Tr} {K : Nat} (hf : five ys = mineL zs K) : Ctr Try.prog 22 [ptr p, .int .i64 5] (fun _ => True) [isTlb p 64 ys] (fun v L => v = .tuple #[.int .i64 K, .int .i64 0] ∧ L = [isTlb p 64 (dallT ys 5)]) := by
  have hda := dropAll_is p 64 ys 5
  rw [dall_five hf, show askE 5 0 = 0 from by decide] at hda
  exact hda
set_option maxRecDepth 100000 in
set_option maxHeartbeats 16000000 in
theorem tlbApart_walk (Z : Option Addr) (mz cz : Nat) (zs : List Tr) (A : Option Addr) (m c : Nat) (l : List Dd) (hmz : mz ≤ 9223372036854775807) (hz : ∀ x ∈ zs, -9223372036854775808 ≤ x.f ∧ x.f ≤ 9223372036854775807) (hm : m ≤ 9223372036854775807) (hl : ∀ x ∈ l, x.In) :
    FnC Try.prog 5 [.slice Z mz cz, .slice A m c] (fun h => rdS encTr h Z mz zs ∧ rdS encDd h A m l) (.bool true) := by
  obtain ⟨K, hK⟩ : ∃ K, K = min mz 20 := ⟨_, rfl⟩
  have hnew := new_ok 64 (by decide) (by decide)
  refine Ctr.intro Try.func5 rfl rfl (by decide +kernel) fun F hpre => ?_
  obtain ⟨r0, r1⟩ := hpre
  have hlz := r0.1
  have hlen := r1.1
  repeat' (first | (refine XL_id ?_; first | refine XL_nil ?_ | refine XL_guard_yes rfl rfl rfl ?_ | (refine XG_call ?_; first | (refine XL_op tt_ok rfl rfl ?_) | refine XL_callE [0] (dall5_is p hys.five) rfl rfl rfl (fun _ _ _ => trivial) ?_ | refine XL_fn works_spec rfl rfl (fun _ _ _ => trivial) ?_ | (refine XL_callK [] hnew rfl rfl (fun _ => rfl) (fun _ _ _ => trivial) (fun u L hv => ?_); obtain ⟨p, rfl, rfl⟩ := hv)) | (refine XL_op tt_ok rfl rfl ?_; try (first | refine XL_dec_t (by omega) ?_ | refine XL_dec_f (by omega) ?_))) | (refine X_id ?_; first | refine X_cutD (c := .block 0 _) [0, 1, 5, 6] (fun (_ : Unit) => []) (fun _ => [isTlb p 64 (mineL zs K)]) (fun _ => True) rfl (X_block ?_) (fun _ _ => ?_) | refine X_cutD (c := .block 2 _) [0, 5, 6] (fun (ys : List Tr) => []) (fun ys => [isTlb p 64 ys]) (fun ys => Five zs K 40 ys) rfl (X_block ?_) (fun ys hys => ?_) | refine X_cutD (c := .block 4 _) [0, 5, 6] (fun (_ : Unit) => []) (fun _ => [isTlb p 64 ys]) (fun _ => True) rfl (X_block ?_) (fun _ _ => ?_) | refine X_seq ?_ | (refine X_regionN (by repeat' (first | exact .nil | apply NL.cons)) ?_) | refine X_skip ?_ | refine X_ret ?_ | refine X_cond_f rfl ?_) | (refine Y_id ?_; refine Y_then ?_))
  · refine X_loopD [0, 1, 5, 6] (fun (i : Nat) => [(7, .int .i64 i)]) (fun i => [isTlb p 64 (mineL zs i)]) (fun i => i ≤ K) (fun i => K - i) 0 rfl (Nat.zero_le _) (by (repeat' (first | exact trivial | refine And.intro rfl ?_)); done) (fun _ h => h) ?_
    intro i hi
    have hi : i ≤ K := hi
    by_cases hlt : i < mz ∧ i < 20
    · have hq := hz _ (get_mem' (l := zs) (i := (i : Int)) (by omega) (by omega))
      have hkf := kind_spec (Cof.get zs (i : Int)).f 4096 hq.1 hq.2 (by decide) (by decide)
      have hfi := fill_is p 64 (mineL zs i) (my zs i)
      rw [my_fillE zs hlt.2, my_fill zs hlt.2] at hfi
      repeat' (first | (refine XL_id ?_; first | refine XL_nil ?_ | refine XL_guard_yes rfl rfl rfl ?_ | (refine XG_load ?_; refine XL_loadW tt_ok 0 rfl rfl rfl rfl rfl rfl ?_) | (refine XG_call ?_; first | (refine XL_op tt_ok rfl rfl ?_) | refine XL_fn hkf rfl rfl (fun _ _ _ => trivial) ?_ | refine XL_callE [1] hfi rfl rfl rfl (fun _ _ _ => trivial) ?_) | (refine XG_alloc ?_; (refine XL_alloc tt_ok rfl rfl (fun _ => rfl) (fun b => ?_); refine XL_nB (by repeat' (first | exact .nil | apply NL.cons)) ?_)) | (refine XG_store ?_; (refine XL_storeW tt_ok 0 rfl rfl rfl rfl rfl rfl rfl ?_; refine XL_nK 0 rfl (by repeat' (first | exact .nil | apply NL.cons)) ?_)) | (refine XL_op tt_ok rfl rfl ?_; try (first | refine XL_int (wrap_i64 (by omega) (by omega)) ?_ | refine XL_dec_t (by omega) ?_ | refine XL_dec_f (by omega) ?_))) | (refine XD_id ?_; first | refine XD_nil ?_ | (refine XD_id ?_; (first | (refine XD_uL rfl ?_; refine XD_s rfl rfl rfl (XV_elf tt_ok rfl (rdS.le (by assumption) hFG) rfl (by omega) (by omega) rfl rfl rfl) rfl ?_) | (refine XD_uI rfl ?_; refine XD_s rfl rfl rfl (XV_idx tt_ok rfl rfl rfl rfl rfl (rdS.le (by assumption) hFG) (by omega) (by omega)) rfl ?_) | (refine XD_u rfl rfl ?_; first | refine XD_s rfl rfl rfl (XV_op tt_ok rfl) rfl ?_ | refine XD_s rfl rfl rfl (XV_build tt_ok rfl rfl rfl rfl rfl rfl) rfl ?_))) | refine XD_m rfl rfl ?_ | (refine XD_thaw thaw ?_; refine XD_l rfl rfl ?_)) | (refine X_id ?_; first | (refine X_drawW (id := 9) ⟨[0, 1, 2, 3, 4, 5, 7, 8, 9, 10, 11, 12, 13, 14, 15, 16, 17, 18, 19, 20, 21], 6, [22, 23, 24]⟩ ⟨[0, 1, 2, 3, 4, 5, 7, 8, 9, 10, 11, 12, 13, 14, 15, 16, 17, 18, 19, 20, 21], 23, [6, 22, 24]⟩ (fun | 6 => .m | 23 => .m | 24 => .l | _ => .s) 8 (by repeat' (first | exact Split.nil | apply Split.keep)) mixed (by decide +kernel) ?_ ?_ <;> (intro G hFG hM thaw; (first | show XD _ _ _ _ _ _ [0, 1, 2, 3, 4, 5, 7, 8, 9, 10, 11, 12, 13, 14, 15, 16, 17, 18, 19, 20, 21, 6, 22, 23, 24] _ _ _ | show XD _ _ _ _ _ _ [0, 1, 2, 3, 4, 5, 7, 8, 9, 10, 11, 12, 13, 14, 15, 16, 17, 18, 19, 20, 21, 23, 6, 22, 24] _ _ _))) | refine X_seq ?_ | (refine X_regionN (by repeat' (first | exact .nil | apply NL.cons)) ?_) | refine X_skip ?_ | refine X_block ?_ | refine X_cond_t rfl ?_ | refine X_cond_f rfl ?_) | (refine Y_id ?_; first | refine Y_then ?_ | refine Y_block_normal ?_ | refine Y_m ?_ | refine Y_l ?_))
      all_goals first
        | exact Y_again (i + 1) fun _ _ hf hs => ⟨by show i + 1 ≤ K; omega, by show K - (i + 1) < K - i; omega, hf.sub (by (repeat' (first | exact trivial | refine And.intro rfl ?_)); done), hs.imp fun h hs => stars_only [0] rfl h hs⟩
        | exact Y_again (i + 1) fun _ _ hf hs => ⟨by show i + 1 ≤ K; omega, by show K - (i + 1) < K - i; omega, hf.sub (by (repeat' (fail)); done), hs.imp fun h hs => stars_only [1] rfl h hs⟩
        | (exfalso; rename_i h9; exact absurd rfl h9)
        | (exfalso; omega)
        | skip
      
    · obtain rfl : i = K := by omega
      repeat' (first | (refine XL_id ?_; first | refine XL_nil ?_ | refine XL_guard_yes rfl rfl rfl ?_ | refine XL_guard_no rfl rfl rfl rfl rfl ?_ | (refine XL_op tt_ok rfl rfl ?_; try (first | refine XL_dec_f (by omega) ?_ | refine XL_dec (fun _ => ?_) (fun _ => ?_)))) | (refine X_id ?_; first | refine X_seq ?_ | (refine X_regionN (by repeat' (first | exact .nil | apply NL.cons)) ?_) | refine X_exit ?_ | refine X_cond_f rfl ?_) | (refine Y_id ?_; first | refine Y_then ?_ | refine Y_then_exit ?_ | refine Y_block_hit ?_))
      all_goals first
        | exact Y_again () fun _ _ hf hs => ⟨trivial, hf.sub (by (repeat' (first | exact trivial | refine And.intro rfl ?_)); done), hs⟩
        | (exfalso; rename_i h9; exact absurd rfl h9)
        | (exfalso; omega)
        | skip
      
  · refine X_loopD2 [0, 1, 5, 6] (fun (i : Nat) (ys : List Tr) => [(9, .int .i64 i)]) (fun _ ys => [isTlb p 64 ys]) (fun i ys => i ≤ m ∧ i ≤ 40 ∧ Five zs K i ys) (fun i _ => m - i) 0 (mineL zs K) rfl ⟨Nat.zero_le _, Nat.zero_le _, ?_⟩ (by (repeat' (first | exact trivial | refine And.intro rfl ?_)); done) (fun _ h => h) ?_
    · have hlk : (mineL zs K).length = K := mine_len zs K
      refine ⟨?_, mine_five zs K, by omega⟩
      clear hlk
      have : ∀ k, k ≤ 20 → TOk 64 (mineL zs k) := fun k => by
        induction k with
        | zero => exact fun _ => TOk.nil (by decide) (by decide)
        | succ k ih => exact fun hk => by have := (ih (by omega)).fillT (my zs k); rwa [my_fill zs (by omega)] at this
      exact this K (by omega)
    intro i ys hi
    obtain ⟨hi, hi40, hfv⟩ := hi
    by_cases hlt : i < m ∧ i < 40
    · have hx := hl _ (get_mem' (l := l) (i := (i : Int)) (by omega) (by omega))
      have hq := hx.a; have hq2 := hx.p; have hq3 := hx.f; have hq4 := hx.k
      have hka := kind_spec (Cof.get l (i : Int)).x.a 100 hq.1 hq.2 (by decide) (by decide)
      have hkp := kind_spec (Cof.get l (i : Int)).x.p 1048576 hq2.1 hq2.2 (by decide) (by decide)
      have hkf := kind_spec (Cof.get l (i : Int)).x.f 4096 hq3.1 hq3.2 (by decide) (by decide)
      have hk2 := kind_spec (Cof.get l (i : Int)).k 2 hq4.1 hq4.2 (by decide) (by decide)
      have hk5 := kind_spec (Cof.get l (i : Int)).k 5 hq4.1 hq4.2 (by decide) (by decide)
      have hask := other_ask (Cof.get l (i : Int)).x
      have hask0 := other_ask0 (Cof.get l (i : Int)).x
      have hfe := other_fill (Cof.get l (i : Int)).x
      have hfi := fill_is p 64 ys (other (Cof.get l (i : Int)).x)
      rw [hfe] at hfi
      have hmk := mark_is p 64 (fillT 64 ys (other (Cof.get l (i : Int)).x)) (6 + (Cof.get l (i : Int)).x.a % 100) ((Cof.get l (i : Int)).x.p % 1048576)
      rw [hask] at hmk
      have hst := hfv.step hlt.2 (Cof.get l (i : Int)).x
      have hdr := fun zz (hu : Uniq zz) => dropK_is p 64 zz (6 + (Cof.get l (i : Int)).x.a % 100) ((Cof.get l (i : Int)).x.p % 1048576) hu
      rw [hask] at hdr
      have hda := fun zz => dropAll_is p 64 zz (6 + (Cof.get l (i : Int)).x.a % 100)
      rw [hask0] at hda
      have hst2 := hst.drop (Cof.get l (i : Int)).x
      have hdr1 := hdr _ hst.ok.uniq
      have hda1 := hda (markT (fillT 64 ys (other (Cof.get l (i : Int)).x)) (6 + (Cof.get l (i : Int)).x.a % 100) ((Cof.get l (i : Int)).x.p % 1048576))
      have hda2 := hda (dropT (markT (fillT 64 ys (other (Cof.get l (i : Int)).x)) (6 + (Cof.get l (i : Int)).x.a % 100) ((Cof.get l (i : Int)).x.p % 1048576)) (6 + (Cof.get l (i : Int)).x.a % 100) ((Cof.get l (i : Int)).x.p % 1048576))
      repeat' (first | (refine XL_id ?_; first | refine XL_nil ?_ | refine XL_guard_yes rfl rfl rfl ?_ | (refine XG_load ?_; first | refine XL_loadW tt_ok 1 rfl rfl rfl rfl rfl rfl ?_ | refine XL_load tt_ok 1 rfl rfl rfl rfl rfl rfl ?_ | refine XL_el tt_ok rfl (by assumption) rfl (by omega) (by omega) rfl rfl rfl rfl ?_ | refine XL_elf tt_ok rfl (by assumption) rfl (by omega) (by omega) rfl rfl rfl rfl ?_) | (refine XG_idx ?_; refine XL_idx tt_ok rfl rfl rfl rfl rfl (by assumption) (by omega) (by omega) rfl ?_) | (refine XG_call ?_; first | (refine XL_op tt_ok rfl rfl ?_) | refine XL_fn hka rfl rfl (fun _ _ _ => trivial) ?_ | refine XL_fn hkp rfl rfl (fun _ _ _ => trivial) ?_ | refine XL_fn hkf rfl rfl (fun _ _ _ => trivial) ?_ | refine XL_fn hk2 rfl rfl (fun _ _ _ => trivial) ?_ | refine XL_fn hk5 rfl rfl (fun _ _ _ => trivial) ?_ | refine XL_callE [0] hfi rfl rfl rfl (fun _ _ _ => trivial) ?_ | refine XL_callE [0] hmk rfl rfl rfl (fun _ _ _ => trivial) ?_ | refine XL_callE [0] hdr1 rfl rfl rfl (fun _ _ _ => trivial) ?_ | refine XL_callE [0] hda1 rfl rfl rfl (fun _ _ _ => trivial) ?_ | refine XL_callE [0] hda2 rfl rfl rfl (fun _ _ _ => trivial) ?_) | (refine XG_alloc ?_; (refine XL_alloc tt_ok rfl rfl (fun _ => rfl) (fun b => ?_); refine XL_nB (by repeat' (first | exact .nil | apply NL.cons)) ?_)) | (refine XG_store ?_; first | (refine XL_storeW tt_ok 0 rfl rfl rfl rfl rfl rfl rfl ?_; refine XL_nK 0 rfl (by repeat' (first | exact .nil | apply NL.cons)) ?_) | (refine XL_store tt_ok 1 rfl rfl rfl rfl rfl rfl rfl rfl ?_; refine XL_nK 1 rfl (by repeat' (first | exact .nil | apply NL.cons)) ?_)) | (refine XL_op tt_ok rfl rfl ?_; try (first | refine XL_int (wrap_i64 (by omega) (by omega)) ?_ | refine XL_dec_t (by omega) ?_ | refine XL_dec_f (by omega) ?_ | refine XL_dec (fun _ => ?_) (fun _ => ?_)))) | (refine XD_id ?_; first | refine XD_nil ?_ | (refine XD_id ?_; (first | (refine XD_uL rfl ?_; refine XD_s rfl rfl rfl (XV_load tt_ok rfl (blk_at 0 rfl hM) rfl rfl rfl) rfl ?_) | (refine XD_u rfl rfl ?_; refine XD_s rfl rfl rfl (XV_op tt_ok rfl) rfl ?_)); try (refine XD_int (wrap_i64 (by omega) (by omega)) ?_)) | refine XD_m rfl rfl ?_ | (refine XD_thaw thaw ?_; refine XD_l rfl rfl ?_) | refine XD_l rfl rfl ?_) | (refine X_id ?_; first | (refine X_draw (id := 16) [0, 1, 4, 5, 7, 8, 2, 3, 10, 6, 9, 11, 12, 13, 14, 15] (fun | 2 => .m | 6 => .m | 9 => .m | 11 => .l | 12 => .l | 13 => .l | 14 => .l | 15 => .l | _ => .s) (fun | 12 => true | 13 => true | 14 => true | 15 => true | _ => false) 8 [0] rfl mixed (by decide +kernel) ?_; intro G hFG hM thaw; show XD _ _ _ _ _ _ [0, 1, 4, 5, 7, 8, 2, 3, 10, 6, 9, 11, 12, 13, 14, 15] _ _ _) | refine X_seq ?_ | (refine X_regionN (by repeat' (first | exact .nil | apply NL.cons)) ?_) | refine X_skip ?_ | refine X_block ?_ | refine X_cond_t rfl ?_ | refine X_cond_f rfl ?_) | (refine Y_id ?_; first | refine Y_then ?_ | refine Y_block_normal ?_ | refine Y_m ?_ | refine Y_l ?_))
      all_goals first
        | exact Y_again (i + 1, _) fun _ _ hf hs => ⟨⟨by show i + 1 ≤ m; omega, by show i + 1 ≤ 40; omega, hst⟩, by show m - (i + 1) < m - i; omega, hf.sub (by (repeat' (first | exact trivial | refine And.intro rfl ?_)); done), hs.imp fun h hs => stars_only [0] rfl h hs⟩
        | exact Y_again (i + 1, _) fun _ _ hf hs => ⟨⟨by show i + 1 ≤ m; omega, by show i + 1 ≤ 40; omega, hst2⟩, by show m - (i + 1) < m - i; omega, hf.sub (by (repeat' (first | exact trivial | refine And.intro rfl ?_)); done), hs.imp fun h hs => stars_only [0] rfl h hs⟩
        | exact Y_again (i + 1, _) fun _ _ hf hs => ⟨⟨by show i + 1 ≤ m; omega, by show i + 1 ≤ 40; omega, hst.dall (Cof.get l (i : Int)).x⟩, by show m - (i + 1) < m - i; omega, hf.sub (by (repeat' (first | exact trivial | refine And.intro rfl ?_)); done), hs.imp fun h hs => stars_only [0] rfl h hs⟩
        | exact Y_again (i + 1, _) fun _ _ hf hs => ⟨⟨by show i + 1 ≤ m; omega, by show i + 1 ≤ 40; omega, hst2.dall (Cof.get l (i : Int)).x⟩, by show m - (i + 1) < m - i; omega, hf.sub (by (repeat' (first | exact trivial | refine And.intro rfl ?_)); done), hs.imp fun h hs => stars_only [0] rfl h hs⟩
        | (exfalso; rename_i h9; exact absurd rfl h9)
        | (exfalso; omega)
        | skip
      
    · repeat' (first | (refine XL_id ?_; first | refine XL_nil ?_ | refine XL_guard_yes rfl rfl rfl ?_ | refine XL_guard_no rfl rfl rfl rfl rfl ?_ | (refine XL_op tt_ok rfl rfl ?_; try (first | refine XL_dec_f (by omega) ?_ | refine XL_dec (fun _ => ?_) (fun _ => ?_)))) | (refine X_id ?_; first | refine X_seq ?_ | (refine X_regionN (by repeat' (first | exact .nil | apply NL.cons)) ?_) | refine X_exit ?_ | refine X_cond_f rfl ?_) | (refine Y_id ?_; first | refine Y_then ?_ | refine Y_then_exit ?_ | refine Y_block_hit ?_))
      all_goals first
        | exact Y_again ys fun _ _ hf hs => ⟨⟨hfv.ok, hfv.five, by have := hfv.len; omega⟩, hf.sub (by (repeat' (first | exact trivial | refine And.intro rfl ?_)); done), hs⟩
        | (exfalso; rename_i h9; exact absurd rfl h9)
        | (exfalso; omega)
        | skip
      
  · refine X_loopD [0, 5, 6] (fun (i : Nat) => [(16, .int .i64 i)]) (fun i => [isTlb p 64 ys]) (fun i => i ≤ K) (fun i => K - i) 0 rfl (Nat.zero_le _) (by (repeat' (first | exact trivial | refine And.intro rfl ?_)); done) (fun _ h => h) ?_
    intro i hi
    have hi : i ≤ K := hi
    by_cases hlt : i < mz ∧ i < 20
    · have hq := hz _ (get_mem' (l := zs) (i := (i : Int)) (by omega) (by omega))
      have hkf := kind_spec (Cof.get zs (i : Int)).f 4096 hq.1 hq.2 (by decide) (by decide)
      have hpk := peek_is p 64 ys 5 i
      rw [show peekR ys 5 i = (my zs i, true, 0) from by unfold peekR; rw [show askE 5 i = 0 from if_pos (by omega), if_pos rfl, mine_find hys.ok.uniq hys.five (k := i) (by omega)]] at hpk
      repeat' (first | (refine XL_id ?_; first | (refine XL_neq (a := my zs i) (b := my zs i) eqTr rfl rfl rfl ?_; refine XL_dec_f (fun h => h rfl) ?_) | refine XL_nil ?_ | refine XL_guard_yes rfl rfl rfl ?_ | (refine XG_load ?_; first | refine XL_loadW tt_ok 0 rfl rfl rfl rfl rfl rfl ?_ | refine XL_loadW tt_ok 2 rfl rfl rfl rfl rfl rfl ?_) | (refine XG_call ?_; first | (refine XL_op tt_ok rfl rfl ?_) | refine XL_fn hkf rfl rfl (fun _ _ _ => trivial) ?_ | refine XL_callE [1] hpk rfl rfl rfl (fun _ _ _ => trivial) ?_) | (refine XG_alloc ?_; (refine XL_alloc tt_ok rfl rfl (fun _ => rfl) (fun b => ?_); refine XL_nB (by repeat' (first | exact .nil | apply NL.cons)) ?_)) | (refine XG_store ?_; (refine XL_storeW tt_ok 0 rfl rfl rfl rfl rfl rfl rfl ?_; refine XL_nK 0 rfl (by repeat' (first | exact .nil | apply NL.cons)) ?_)) | (refine XL_op tt_ok rfl rfl ?_; try (first | refine XL_int (wrap_i64 (by omega) (by omega)) ?_ | refine XL_dec_t (by omega) ?_ | refine XL_dec_f (by omega) ?_ | refine XL_dec (fun _ => ?_) (fun _ => ?_)))) | (refine XD_id ?_; first | refine XD_nil ?_ | (refine XD_id ?_; (first | (refine XD_uL rfl ?_; refine XD_s rfl rfl rfl (XV_elf tt_ok rfl (rdS.le (by assumption) hFG) rfl (by omega) (by omega) rfl rfl rfl) rfl ?_) | (refine XD_uI rfl ?_; refine XD_s rfl rfl rfl (XV_idx tt_ok rfl rfl rfl rfl rfl (rdS.le (by assumption) hFG) (by omega) (by omega)) rfl ?_) | (refine XD_u rfl rfl ?_; first | refine XD_s rfl rfl rfl (XV_op tt_ok rfl) rfl ?_ | refine XD_s rfl rfl rfl (XV_build tt_ok rfl rfl rfl rfl rfl rfl) rfl ?_))) | refine XD_m rfl rfl ?_ | (refine XD_thaw thaw ?_; refine XD_l rfl rfl ?_)) | (refine X_id ?_; first | (refine X_drawW (id := 29) ⟨[0, 1, 2, 3, 4, 5, 7, 8, 9, 10, 11, 12, 13, 14, 15, 16, 17, 18, 19, 20, 21], 6, [22, 23, 24]⟩ ⟨[0, 1, 2, 3, 4, 5, 7, 8, 9, 10, 11, 12, 13, 14, 15, 16, 17, 18, 19, 20, 21], 23, [6, 22, 24]⟩ (fun | 6 => .m | 23 => .m | 24 => .l | _ => .s) 8 (by repeat' (first | exact Split.nil | apply Split.keep)) mixed (by decide +kernel) ?_ ?_ <;> (intro G hFG hM thaw; (first | show XD _ _ _ _ _ _ [0, 1, 2, 3, 4, 5, 7, 8, 9, 10, 11, 12, 13, 14, 15, 16, 17, 18, 19, 20, 21, 6, 22, 23, 24] _ _ _ | show XD _ _ _ _ _ _ [0, 1, 2, 3, 4, 5, 7, 8, 9, 10, 11, 12, 13, 14, 15, 16, 17, 18, 19, 20, 21, 23, 6, 22, 24] _ _ _))) | refine X_seq ?_ | (refine X_regionN (by repeat' (first | exact .nil | apply NL.cons)) ?_) | refine X_skip ?_ | refine X_ret ?_ | refine X_block ?_ | refine X_cond_t rfl ?_ | refine X_cond_f rfl ?_) | (refine Y_id ?_; first | refine Y_then ?_ | refine Y_then_ret ?_ | refine Y_block_normal ?_ | refine Y_block_ret ?_ | refine Y_m ?_ | refine Y_l ?_))
      all_goals first
        | exact Y_again (i + 1) fun _ _ hf hs => ⟨by show i + 1 ≤ K; omega, by show K - (i + 1) < K - i; omega, hf.sub (by (repeat' (first | exact trivial | refine And.intro rfl ?_)); done), hs.imp fun h hs => stars_only [1] rfl h hs⟩
        | exact Y_again (i + 1) fun _ _ hf hs => ⟨by show i + 1 ≤ K; omega, by show K - (i + 1) < K - i; omega, hf.sub (by (repeat' (fail)); done), hs.imp fun h hs => stars_only [2] rfl h hs⟩
        | (exfalso; rename_i h9; exact absurd rfl h9)
        | (exfalso; omega)
        | skip
      
    · repeat' (first | (refine XL_id ?_; first | refine XL_nil ?_ | refine XL_guard_yes rfl rfl rfl ?_ | refine XL_guard_no rfl rfl rfl rfl rfl ?_ | (refine XL_op tt_ok rfl rfl ?_; try (first | refine XL_dec_f (by omega) ?_ | refine XL_dec (fun _ => ?_) (fun _ => ?_)))) | (refine X_id ?_; first | refine X_seq ?_ | (refine X_regionN (by repeat' (first | exact .nil | apply NL.cons)) ?_) | refine X_exit ?_ | refine X_cond_f rfl ?_) | (refine Y_id ?_; first | refine Y_then ?_ | refine Y_then_exit ?_ | refine Y_block_hit ?_))
      all_goals first
        | exact Y_again () fun _ _ hf hs => ⟨trivial, hf.sub (by (repeat' (first | exact trivial | refine And.intro rfl ?_)); done), hs⟩
        | (exfalso; rename_i h9; exact absurd rfl h9)
        | (exfalso; omega)
        | skip
      
  all_goals first
    | exact Y_fn1 rfl rfl rfl
    | (exfalso; rename_i h9; exact absurd rfl h9)
    | (exfalso; omega)
    | skip
  
end Go.Proofs.Ytocilbkjbikeeaa
