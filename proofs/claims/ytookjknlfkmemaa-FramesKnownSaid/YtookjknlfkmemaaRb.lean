/- Walks of the reference's memory, on: Store, frame, Page, Put, Zero, Copy. -/
import Derived.Test.YtookjknlfkmemaaRa
set_option linter.unusedVariables false
namespace Go.Proofs.Ytookjknlfkmemaa
open Go.RowKit Go.Cof

set_option maxHeartbeats 4000000 in
theorem rstore_spec (p g N : Nat) (bs : List Int) (pa size v : Int) (hmem : Mem bs) (hN : N = bs.length) (h0 : 0 ≤ pa) (h1 : pa < 18446744073709551616) (h2 : -9223372036854775808 ≤ size) (h3 : size < 9223372036854775808) (hv0 : 0 ≤ v) (hv1 : v < 18446744073709551616) :
    Ctr Try.prog 31 [.pointer (some ⟨p, 0, none⟩), .int .u64 pa, .int .i64 size, .int .u64 v] (refB p g N) [refO g N bs] (fun u L => u = .int .i64 (runE N pa size) ∧ L = [refO g N (if runE N pa size = 0 then storeF bs pa.toNat v size.toNat else bs)]) := by
  have hl := hmem.le
  have hrun := rrun_spec p g N bs pa size (by omega) (by omega) h0 h1 h2 h3
  refine Ctr.intro Try.func31 rfl rfl (by decide +kernel) fun F hpre => ?_
  by_cases he : runE N pa size = 0
  · have hin := runE_ok he
    rw [he] at hrun ⊢
    repeat' (first | (refine XL_id ?_; first | refine XL_nil ?_ | (refine XG_call ?_; (refine XL_fn hrun rfl rfl (fun g hg hL => ⟨blk_le hpre hg, by exact rd_at 0 rfl hL⟩) ?_)) | (refine XL_op tt_ok rfl rfl ?_; try (refine XL_dec_f (by omega) ?_))) | (refine X_id ?_; first | refine X_seq ?_ | (refine X_regionN (by repeat' (first | exact .nil | apply NL.cons)) ?_) | refine X_skip ?_ | refine X_block ?_ | refine X_cond_f rfl ?_) | (refine Y_id ?_; refine Y_then ?_))
    refine X_loopD [0, 1, 2] (fun (i : Nat) => [(10, .int .i64 i), (3, .int .u64 (v / 256 ^ i))]) (fun i => [refO g N (storeF bs pa.toNat v i)]) (fun i => i ≤ size.toNat) (fun i => size.toNat - i) 0 rfl (Nat.zero_le _) (by rw [Int.pow_zero, Int.ediv_one]; exact (by (repeat' (first | exact trivial | refine And.intro rfl ?_)); done)) (fun _ h => h) ?_
    intro i hi
    have hi : i ≤ size.toNat := hi
    have hd := Int.ediv_nonneg hv0 (Int.le_of_lt (pow256_pos i))
    have hd2 := Int.ediv_le_self (256 ^ i) hv0
    have hd3 : v / 256 ^ i / 256 = v / 256 ^ (i + 1) := by rw [Int.pow_succ, Int.ediv_ediv_of_nonneg (Int.le_of_lt (pow256_pos i))]
    have hsl : (storeF bs pa.toNat v i).length = bs.length := storeF_length _ _ _ _
    have e0 : 0 + (pa + (i : Int)).toNat * 1 = pa.toNat + i := by omega
    by_cases hlt : i < size.toNat
    · repeat' (first | (refine XL_id ?_; first | refine XL_nil ?_ | (refine XG_load ?_; refine XL_loadF tt_ok rfl (by assumption) rfl rfl rfl rfl ?_) | (refine XG_idx ?_; (refine XL_idxl tt_ok rfl rfl rfl rfl rfl (by omega) (by omega) rfl ?_; rw [e0])) | (refine XG_store ?_; refine XL_put1 tt_ok 0 (v / 256 ^ i % 256) rfl rfl rfl rfl rfl rfl rfl (by omega) rfl ?_) | (refine XL_op tt_ok rfl rfl ?_; refine XL_int (show _ = pa + (i : Int) from wrap_u64 (by omega) (by omega)) ?_) | (refine XL_op tt_ok rfl rfl ?_; refine XL_int (show _ = v / 256 ^ i % 256 from rem_pos (by omega)) ?_) | (refine XL_op tt_ok rfl rfl ?_; refine XL_int (show _ = v / 256 ^ i % 256 from wrap_u8 (by omega) (by omega)) ?_) | (refine XL_op tt_ok rfl rfl ?_; refine XL_int (show _ = v / 256 ^ (i + 1) from (quo_u64 (by omega) (by omega) (by omega)).trans hd3) ?_) | (refine XL_op tt_ok rfl rfl ?_; try (first | refine XL_int (wrap_i64 (by omega) (by omega)) ?_ | refine XL_int (wrap_u64 (by omega) (by omega)) ?_ | refine XL_dec_t (by omega) ?_))) | (refine X_id ?_; first | refine X_seq ?_ | (refine X_regionN (by repeat' (first | exact .nil | apply NL.cons)) ?_) | refine X_skip ?_ | refine X_block ?_ | refine X_cond_t rfl ?_) | (refine Y_id ?_; first | refine Y_then ?_ | refine Y_block_normal ?_))
      all_goals first
        | exact Y_again (i + 1) fun _ _ hf hs => ⟨by show i + 1 ≤ size.toNat; omega, by show size.toNat - (i + 1) < size.toNat - i; omega, hf.sub (by (repeat' (first | exact trivial | refine And.intro rfl ?_)); done), hs⟩
        | skip
      
    · obtain rfl : i = size.toNat := by omega
      repeat' (first | (refine XL_id ?_; first | refine XL_nil ?_ | (refine XL_op tt_ok rfl rfl ?_; try (refine XL_dec_f (by omega) ?_))) | (refine X_id ?_; first | refine X_seq ?_ | (refine X_regionN (by repeat' (first | exact .nil | apply NL.cons)) ?_) | refine X_ret ?_ | refine X_exit ?_ | refine X_cond_f rfl ?_) | (refine Y_id ?_; first | refine Y_then ?_ | refine Y_then_exit ?_ | refine Y_block_hit ?_))
      exact Y_ret1 rfl rfl (fun _ h => h) ⟨rfl, rfl⟩
  · rw [if_neg he]
    repeat' (first | (refine XL_id ?_; first | refine XL_nil ?_ | (refine XG_call ?_; (refine XL_fn hrun rfl rfl (fun g hg hL => ⟨blk_le hpre hg, by exact rd_at 0 rfl hL⟩) ?_)) | (refine XL_op tt_ok rfl rfl ?_; try (refine XL_dec_t (by omega) ?_))) | (refine X_id ?_; first | refine X_seq ?_ | (refine X_regionN (by repeat' (first | exact .nil | apply NL.cons)) ?_) | refine X_ret ?_ | refine X_cond_t rfl ?_) | (refine Y_id ?_; first | refine Y_then ?_ | refine Y_then_ret ?_))
    all_goals exact Y_ret1 rfl rfl (fun _ h => h) ⟨rfl, rfl⟩
theorem rframe_spec (p g N : Nat) (f : Int) (hN0 : 0 < N) (hN : N ≤ 1048576) : FnC Try.prog 40 [.pointer (some ⟨p, 0, none⟩), .int .i64 f] (refB p g N) (.int .i64 (frameE N f)) := by
  refine Ctr.intro Try.func40 rfl rfl (by decide +kernel) fun F hpre => ?_
  by_cases he : f < 0 ∨ (N : Int) / 256 ≤ f
  · rw [show frameE N f = 2 from if_pos he]
    repeat' (first | (refine XL_id ?_; first | refine XL_nil ?_ | (refine XG_load ?_; refine XL_loadF tt_ok rfl (by assumption) rfl rfl rfl rfl ?_) | (refine XG_call ?_; first | (refine XL_op tt_ok rfl rfl ?_) | (refine XL_fn (within_spec _ _ _) rfl rfl (fun _ _ _ => trivial) ?_; refine XL_dec (fun _ => ?_) (fun _ => ?_)) | (refine XL_fn (rthere_spec _ _ _ (by omega) (by omega)) rfl rfl (fun g hg hL => by exact blk_le (by assumption) hg) ?_)) | (refine XL_op tt_ok rfl rfl ?_; try (first | refine XL_int (wrap_i64 (by omega) (by omega)) ?_ | refine XL_int (quo_i64 (by omega) (by omega) (by omega)) ?_))) | (refine X_id ?_; first | refine X_seq ?_ | (refine X_regionN (by repeat' (exact .nil)) ?_) | refine X_skip ?_ | refine X_ret ?_ | refine X_cond_t rfl ?_ | refine X_cond_f rfl ?_) | (refine Y_id ?_; first | refine Y_then ?_ | refine Y_then_ret ?_))
    all_goals first
      | exact Y_fn1 rfl rfl rfl
      | (exfalso; omega)
  · rw [show frameE N f = 0 from if_neg he]
    repeat' (first | (refine XL_id ?_; first | refine XL_nil ?_ | (refine XG_load ?_; refine XL_loadF tt_ok rfl (by assumption) rfl rfl rfl rfl ?_) | (refine XG_call ?_; first | (refine XL_op tt_ok rfl rfl ?_) | (refine XL_fn (within_spec _ _ _) rfl rfl (fun _ _ _ => trivial) ?_; refine XL_dec (fun _ => ?_) (fun _ => ?_)) | (refine XL_fn (rthere_spec _ _ _ (by omega) (by omega)) rfl rfl (fun g hg hL => by exact blk_le (by assumption) hg) ?_)) | (refine XL_op tt_ok rfl rfl ?_; try (first | refine XL_int (wrap_i64 (by omega) (by omega)) ?_ | refine XL_int (quo_i64 (by omega) (by omega) (by omega)) ?_))) | (refine X_id ?_; first | refine X_seq ?_ | (refine X_regionN (by repeat' (exact .nil)) ?_) | refine X_skip ?_ | refine X_ret ?_ | refine X_cond_t rfl ?_ | refine X_cond_f rfl ?_) | (refine Y_id ?_; first | refine Y_then ?_ | refine Y_then_ret ?_))
    all_goals first
      | exact Y_fn1 rfl rfl rfl
      | (exfalso; omega)
theorem pageF_get {bs : List Int} {f : Int} {i : Nat} (h0 : 0 ≤ f) (hi : i < 256) : Cof.get (pageF bs f) i = Cof.get bs (f * 256 + (i : Int)) := by
  unfold Cof.get pageF
  rw [Int.toNat_natCast, show (f * 256 + (i : Int)).toNat = f.toNat * 256 + i from by omega, List.getD_eq_getElem?_getD, List.getD_eq_getElem?_getD, List.getElem?_take, if_pos hi, List.getElem?_drop]
theorem take_set_succ {zs : List Int} {i : Nat} {x : Int} {ys : List Int} (h : zs.take i = ys.take i) (hi : i < zs.length) (hy : i < ys.length) (hx : x = Cof.get ys i) : (zs.set i x).take (i + 1) = ys.take (i + 1) := by
  have hg : ys[i]? = some x := by
    have := Cof.get_some (xs := ys) (i := (i : Int)) (by omega) (by omega)
    rw [Int.toNat_natCast] at this
    rw [this, hx]
  rw [List.take_add_one, List.take_add_one, List.take_set_of_le (Nat.le_refl _), h, hg, List.getElem?_set_self hi]
set_option maxHeartbeats 4000000 in
theorem rpage_spec (p g N : Nat) (bs : List Int) (f : Int) (hmem : Mem bs) (hN : N = bs.length) :
    Ctr Try.prog 35 [.pointer (some ⟨p, 0, none⟩), .int .i64 f] (refH p g N bs) [] (fun v L => if frameE N f = 0 then ∃ b, v = .tuple #[.slice (some ⟨b, 0, none⟩) 256 256, .int .i64 0] ∧ L = [own (encI .u8) (some ⟨b, 0, none⟩) 256 256 (pageF bs f)] else v = .tuple #[.slice none 0 0, .int .i64 (frameE N f)] ∧ L = []) := by
  have hl := hmem.le
  have hfr := rframe_spec p g N f (by omega) (by omega)
  refine Ctr.intro Try.func35 rfl rfl (by decide +kernel) fun F hpre => ?_
  obtain ⟨hb, hr⟩ := hpre
  by_cases he : frameE N f = 0
  · have hin := frameE_ok he
    have hpl : (pageF bs f).length = 256 := pageF_length hin.1 (by omega)
    simp only [if_pos he]
    rw [he] at hfr
    repeat' (first | (refine XL_id ?_; first | refine XL_nil ?_ | (refine XG_call ?_; refine XL_fn hfr rfl rfl (fun g hg _ => blk_le hb hg) ?_) | (refine XG_make ?_; (refine XL_make (encI .u8) (0 : Int) tt_ok rfl rfl rfl rfl rfl rfl rfl rfl (by omega) (by omega) (by show (1 : Int) * _ ≤ _; omega) (by omega) (fun _ => rfl) (fun q => ?_))) | (refine XL_op tt_ok rfl rfl ?_; try (refine XL_dec_f (by omega) ?_))) | (refine X_id ?_; first | refine X_seq ?_ | (refine X_regionN (by repeat' (first | exact .nil | apply NL.cons)) ?_) | refine X_skip ?_ | refine X_block ?_ | refine X_cond_f rfl ?_) | (refine Y_id ?_; refine Y_then ?_))
    refine X_loopD2 [0, 1, 7] (fun (i : Nat) (zs : List Int) => [(8, .int .i64 i)]) (fun i zs => [own (encI .u8) (some ⟨q, 0, none⟩) 256 256 zs]) (fun i zs => i ≤ 256 ∧ zs.length = 256 ∧ zs.take i = (pageF bs f).take i) (fun i _ => 256 - i) 0 (List.replicate 256 0) rfl ⟨by omega, List.length_replicate, rfl⟩ (by (repeat' (first | exact trivial | refine And.intro rfl ?_)); done) (fun _ h => h) ?_
    intro i zs hi
    obtain ⟨hi, hzl, hzt⟩ := hi
    by_cases hlt : i < 256
    · have hpg := pageF_get (bs := bs) hin.1 hlt
      have e0 : 0 + ((i : Nat) : Int).toNat * 1 = i := by omega
      repeat' (first | (refine XL_id ?_; first | refine XL_nil ?_ | (refine XG_load ?_; first | refine XL_loadF tt_ok rfl (by assumption) rfl rfl rfl rfl ?_ | refine XL_el tt_ok rfl (by assumption) rfl (by omega) (by omega) rfl rfl rfl rfl ?_) | (refine XG_idx ?_; first | refine XL_idx tt_ok rfl rfl rfl rfl rfl (by assumption) (by omega) (by omega) rfl ?_ | (refine XL_idxl tt_ok rfl rfl rfl rfl rfl (by omega) (by omega) rfl ?_; rw [e0])) | (refine XG_store ?_; refine XL_put1 tt_ok 0 (Cof.get bs (f * 256 + (i : Int))) rfl rfl rfl rfl rfl rfl rfl (by omega) rfl ?_) | (refine XL_op tt_ok rfl rfl ?_; try (first | refine XL_int (wrap_i64 (by omega) (by omega)) ?_ | refine XL_dec_t (by omega) ?_))) | (refine X_id ?_; first | refine X_seq ?_ | (refine X_regionN (by repeat' (first | exact .nil | apply NL.cons)) ?_) | refine X_skip ?_ | refine X_block ?_ | refine X_cond_t rfl ?_) | (refine Y_id ?_; first | refine Y_then ?_ | refine Y_block_normal ?_))
      all_goals first
        | exact Y_again (i + 1, zs.set i (Cof.get bs (f * 256 + (i : Int)))) fun _ _ hf hs => ⟨⟨by show i + 1 ≤ 256; omega, by rw [List.length_set]; exact hzl, take_set_succ hzt (by omega) (by omega) hpg.symm⟩, by show 256 - (i + 1) < 256 - i; omega, hf.sub (by (repeat' (first | exact trivial | refine And.intro rfl ?_)); done), hs⟩
        | skip
      
    · obtain rfl : i = 256 := by omega
      rw [List.take_of_length_le (by omega), List.take_of_length_le (by omega)] at hzt
      subst hzt
      repeat' (first | (refine XL_id ?_; first | refine XL_nil ?_ | (refine XL_op tt_ok rfl rfl ?_; try (refine XL_dec_f (by omega) ?_))) | (refine X_id ?_; first | refine X_seq ?_ | (refine X_regionN (by repeat' (first | exact .nil | apply NL.cons)) ?_) | refine X_ret ?_ | refine X_exit ?_ | refine X_cond_f rfl ?_) | (refine Y_id ?_; first | refine Y_then ?_ | refine Y_then_exit ?_ | refine Y_block_hit ?_))
      exact Y_ret2 rfl rfl rfl (fun _ h => h) ⟨q, rfl, rfl⟩
  · simp only [if_neg he]
    repeat' (first | (refine XL_id ?_; first | refine XL_nil ?_ | (refine XG_call ?_; refine XL_fn hfr rfl rfl (fun g hg _ => blk_le hb hg) ?_) | (refine XL_op tt_ok rfl rfl ?_; try (refine XL_dec_t (by omega) ?_))) | (refine X_id ?_; first | refine X_seq ?_ | (refine X_regionN (by repeat' (exact .nil)) ?_) | refine X_ret ?_ | refine X_cond_t rfl ?_) | (refine Y_id ?_; first | refine Y_then ?_ | refine Y_then_ret ?_))
    all_goals exact Y_ret2 rfl rfl rfl (L' := []) (fun _ _ => trivial) ⟨rfl, rfl⟩
def putE (N : Nat) (f : Int) (m : Nat) : Int := if frameE N f = 0 then (if m = 256 then 0 else 2) else frameE N f
def putI (bs : List Int) (f : Int) (ys : List Int) (i : Nat) : List Int := bs.take (f.toNat * 256) ++ ys.take i ++ bs.drop (f.toNat * 256 + i)
theorem putI_length {bs ys : List Int} {f : Int} {i : Nat} (h0 : 0 ≤ f) (h1 : f < (bs.length : Int) / 256) (hy : ys.length = 256) (hi : i ≤ 256) : (putI bs f ys i).length = bs.length := by
  unfold putI
  simp only [List.length_append, List.length_take, List.length_drop]
  omega
theorem putI_zero (bs : List Int) (f : Int) (ys : List Int) : putI bs f ys 0 = bs := by simp [putI]
theorem putI_full {bs ys : List Int} {f : Int} (hy : ys.length = 256) : putI bs f ys 256 = putF bs f ys := by
  unfold putI putF
  rw [List.take_of_length_le (l := ys) (by omega)]
theorem putI_succ {bs ys : List Int} {f : Int} {i : Nat} (h0 : 0 ≤ f) (h1 : f < (bs.length : Int) / 256) (hy : ys.length = 256) (hi : i < 256) : (putI bs f ys i).set (f.toNat * 256 + i) (Cof.get ys i) = putI bs f ys (i + 1) := by
  have hl := putI_length h0 h1 hy (Nat.le_of_lt hi)
  have hl2 := putI_length (i := i + 1) h0 h1 hy hi
  refine List.ext_getElem? fun k => ?_
  have e1 : (bs.take (f.toNat * 256)).length = f.toNat * 256 := by rw [List.length_take]; omega
  have e2 : (ys.take i).length = i := by rw [List.length_take]; omega
  have e3 : (ys.take (i + 1)).length = i + 1 := by rw [List.length_take]; omega
  rw [List.getElem?_set]
  unfold putI at hl hl2 ⊢
  by_cases hk : f.toNat * 256 + i = k
  · rw [if_pos hk, if_pos (by omega)]
    rw [List.getElem?_append_left (by rw [List.length_append]; omega), List.getElem?_append_right (by omega), e1, List.getElem?_take, if_pos (by omega)]
    have := Cof.get_some (xs := ys) (i := (i : Int)) (by omega) (by omega)
    rw [Int.toNat_natCast] at this
    rw [← this]
    congr 1
    omega
  · rw [if_neg hk]
    by_cases h2 : k < f.toNat * 256
    · rw [List.getElem?_append_left (by rw [List.length_append]; omega), List.getElem?_append_left (by omega), List.getElem?_append_left (by rw [List.length_append]; omega), List.getElem?_append_left (by omega)]
    · by_cases h3 : k < f.toNat * 256 + i
      · rw [List.getElem?_append_left (by rw [List.length_append]; omega), List.getElem?_append_right (by omega), List.getElem?_append_left (by rw [List.length_append]; omega), List.getElem?_append_right (by omega), List.getElem?_take, List.getElem?_take, if_pos (by omega), if_pos (by omega)]
      · rw [List.getElem?_append_right (by rw [List.length_append]; omega), List.getElem?_append_right (by rw [List.length_append]; omega), List.getElem?_drop, List.getElem?_drop, List.length_append, List.length_append, e1, e2, e3]
        congr 1
        omega
theorem putE_256 (N : Nat) (f : Int) : putE N f 256 = frameE N f := by
  unfold putE
  by_cases h : frameE N f = 0
  · rw [if_pos h, if_pos rfl, h]
  · rw [if_neg h]
set_option maxHeartbeats 4000000 in
theorem rput_spec (p g N : Nat) (bs : List Int) (f : Int) (A : Option Addr) (m c : Nat) (ys : List Int) (hmem : Mem bs) (hN : N = bs.length) (hm : m ≤ 9223372036854775807) :
    Ctr Try.prog 39 [.pointer (some ⟨p, 0, none⟩), .int .i64 f, .slice A m c] (fun h => refB p g N h ∧ rdS (encI .u8) h A m ys) [refO g N bs] (fun v L => v = .int .i64 (putE N f m) ∧ L = [refO g N (if putE N f m = 0 then putF bs f ys else bs)]) := by
  have hl := hmem.le
  have hfr := rframe_spec p g N f (by omega) (by omega)
  refine Ctr.intro Try.func39 rfl rfl (by decide +kernel) fun F hpre => ?_
  obtain ⟨hb, hr⟩ := hpre
  have hyl := hr.1
  by_cases he : frameE N f = 0
  · have hin := frameE_ok he
    rw [he] at hfr
    by_cases hm2 : m = 256
    · subst hm2
      rw [show putE N f 256 = 0 from by unfold putE; rw [if_pos he, if_pos rfl]]
      repeat' (first | (refine XL_id ?_; first | refine XL_nil ?_ | (refine XG_call ?_; first | (refine XL_op tt_ok rfl rfl ?_) | refine XL_fn hfr rfl rfl (fun g hg hL => blk_le hb hg) ?_) | (refine XL_op tt_ok rfl rfl ?_; try (refine XL_dec_f (by omega) ?_))) | (refine X_id ?_; first | refine X_seq ?_ | (refine X_regionN (by repeat' (first | exact .nil | apply NL.cons)) ?_) | refine X_skip ?_ | refine X_block ?_ | refine X_cond_f rfl ?_) | (refine Y_id ?_; refine Y_then ?_))
      refine X_loopD [0, 1, 2] (fun (i : Nat) => [(8, .int .i64 i)]) (fun i => [refO g N (putI bs f ys i)]) (fun i => i ≤ 256) (fun i => 256 - i) 0 rfl (by omega) (by (repeat' (first | exact trivial | refine And.intro rfl ?_)); done) (fun _ h => by rw [putI_zero]; exact h) ?_
      intro i hi
      have hi : i ≤ 256 := hi
      by_cases hlt : i < 256
      · have e0 : 0 + (f * 256 + (i : Int)).toNat * 1 = f.toNat * 256 + i := by omega
        have hpl := putI_length (bs := bs) hin.1 (by omega) hyl.symm (Nat.le_of_lt hlt)
        repeat' (first | (refine XL_id ?_; first | refine XL_nil ?_ | (refine XG_store ?_; refine XL_put1 tt_ok 0 (Cof.get ys i) rfl rfl rfl rfl rfl rfl rfl (by omega) rfl ?_) | (refine XL_op tt_ok rfl rfl ?_; try (first | refine XL_int (wrap_i64 (by omega) (by omega)) ?_ | refine XL_dec_t (by omega) ?_))) | (refine XD_id ?_; first | refine XD_nil ?_ | (refine XD_id ?_; (first | (refine XD_uL rfl ?_; first | refine XD_s rfl rfl rfl (XV_load tt_ok rfl (blk_le (by assumption) hFG) rfl rfl rfl) rfl ?_ | refine XD_s rfl rfl rfl (XV_el tt_ok rfl (rdS.le (by assumption) hFG) rfl (by omega) (by omega) rfl rfl rfl) rfl ?_) | (refine XD_uI rfl ?_; first | refine XD_s rfl rfl rfl (XV_idx tt_ok rfl rfl rfl rfl rfl (rdS.le (by assumption) hFG) (by omega) (by omega)) rfl ?_ | refine XD_s rfl rfl rfl (XV_idxl tt_ok rfl rfl rfl rfl rfl (by omega) (by omega)) rfl ?_) | (refine XD_u rfl rfl ?_; refine XD_s rfl rfl rfl (XV_op tt_ok rfl) rfl ?_)); try (refine XD_int (wrap_i64 (by omega) (by omega)) ?_)) | (refine XD_thaw thaw ?_; refine XD_l rfl rfl ?_)) | (refine X_id ?_; first | (refine X_drawS (id := 9) [0, 1, 2, 3, 4, 5, 6, 7, 8, 9, 10, 11, 12, 13] (fun | 13 => .l | _ => .s) 8 (by (repeat apply Split.blk); apply Split.keep; repeat' (exact Split.nil)) mixed (by decide +kernel) ?_; intro G hFG hM thaw; show XD _ _ _ _ _ _ [0, 1, 2, 3, 4, 5, 6, 7, 8, 9, 10, 11, 12, 13] _ _ _) | refine X_seq ?_ | (refine X_regionN (by repeat' (first | exact .nil | apply NL.cons)) ?_) | refine X_skip ?_ | refine X_block ?_ | refine X_cond_t rfl ?_) | (refine Y_id ?_; first | refine Y_then ?_ | refine Y_block_normal ?_ | refine Y_l ?_))
        all_goals first
          | exact Y_again (i + 1) fun _ _ hf hs => ⟨by show i + 1 ≤ 256; omega, by show 256 - (i + 1) < 256 - i; omega, hf.sub (by (repeat' (first | exact trivial | refine And.intro rfl ?_)); done), hs.imp fun h hs => by rw [← putI_succ (bs := bs) hin.1 (by omega) hyl.symm hlt, ← e0]; exact hs⟩
          | skip
        
      · obtain rfl : i = 256 := by omega
        rw [putI_full hyl.symm]
        repeat' (first | (refine XL_id ?_; first | refine XL_nil ?_ | (refine XL_op tt_ok rfl rfl ?_; try (refine XL_dec_f (by omega) ?_))) | (refine X_id ?_; first | refine X_seq ?_ | (refine X_regionN (by repeat' (first | exact .nil | apply NL.cons)) ?_) | refine X_ret ?_ | refine X_exit ?_ | refine X_cond_f rfl ?_) | (refine Y_id ?_; first | refine Y_then ?_ | refine Y_then_exit ?_ | refine Y_block_hit ?_))
        exact Y_ret1 rfl rfl (fun _ h => h) ⟨rfl, rfl⟩
    · rw [show putE N f m = 2 from by unfold putE; rw [if_pos he, if_neg hm2]]
      repeat' (first | (refine XL_id ?_; first | refine XL_nil ?_ | (refine XG_call ?_; first | (refine XL_op tt_ok rfl rfl ?_) | refine XL_fn hfr rfl rfl (fun g hg hL => blk_le hb hg) ?_) | (refine XL_op tt_ok rfl rfl ?_; try (first | refine XL_dec_t (by omega) ?_ | refine XL_dec_f (by omega) ?_))) | (refine X_id ?_; first | refine X_seq ?_ | (refine X_regionN (by repeat' (first | exact .nil | apply NL.cons)) ?_) | refine X_skip ?_ | refine X_ret ?_ | refine X_cond_t rfl ?_ | refine X_cond_f rfl ?_) | (refine Y_id ?_; first | refine Y_then ?_ | refine Y_then_ret ?_))
      all_goals first
        | exact Y_ret1 rfl rfl (fun _ h => h) ⟨rfl, rfl⟩
        | (exfalso; omega)
  · rw [show putE N f m = frameE N f from if_neg he, if_neg he]
    repeat' (first | (refine XL_id ?_; first | refine XL_nil ?_ | (refine XG_call ?_; refine XL_fn hfr rfl rfl (fun g hg hL => blk_le hb hg) ?_) | (refine XL_op tt_ok rfl rfl ?_; try (refine XL_dec_t (by omega) ?_))) | (refine X_id ?_; first | refine X_seq ?_ | (refine X_regionN (by repeat' (first | exact .nil | apply NL.cons)) ?_) | refine X_ret ?_ | refine X_cond_t rfl ?_) | (refine Y_id ?_; first | refine Y_then ?_ | refine Y_then_ret ?_))
    all_goals exact Y_ret1 rfl rfl (fun _ h => h) ⟨rfl, rfl⟩
theorem rzero_spec (p g N : Nat) (bs : List Int) (f : Int) (hmem : Mem bs) (hN : N = bs.length) :
    Ctr Try.prog 32 [.pointer (some ⟨p, 0, none⟩), .int .i64 f] (refB p g N) [refO g N bs] (fun v L => v = .int .i64 (frameE N f) ∧ L = [refO g N (if frameE N f = 0 then putF bs f (List.replicate 256 0) else bs)]) := by
  have hput := fun q : Nat => rput_spec p g N bs f (some ⟨q, 0, none⟩) 256 256 (List.replicate 256 0) hmem hN (by decide)
  rw [putE_256] at hput
  refine Ctr.intro Try.func32 rfl rfl (by decide +kernel) fun F hpre => ?_
  repeat' (first | (refine XL_id ?_; first | refine XL_nil ?_ | (refine XG_make ?_; (refine XL_make (encI .u8) (0 : Int) tt_ok rfl rfl rfl rfl rfl rfl rfl rfl (by omega) (by omega) (by show (1 : Int) * _ ≤ _; omega) (by omega) (fun _ => rfl) (fun q => ?_))) | (refine XG_call ?_; refine XL_callE [1] (hput _) rfl rfl rfl (fun g hg hL => ⟨blk_le hpre hg, rd_at 0 rfl hL⟩) ?_) | (refine XL_op tt_ok rfl rfl ?_)) | (refine X_id ?_; first | refine X_seq ?_ | (refine X_regionN (by repeat' (first | exact .nil | apply NL.cons)) ?_) | refine X_ret ?_) | (refine Y_id ?_; refine Y_then ?_))
  exact Y_ret1 rfl rfl (stars_only [0] rfl) ⟨rfl, rfl⟩
theorem rcopy_spec (p g N : Nat) (bs : List Int) (to from_ : Int) (hmem : Mem bs) (hN : N = bs.length) :
    Ctr Try.prog 33 [.pointer (some ⟨p, 0, none⟩), .int .i64 to, .int .i64 from_] (refB p g N) [refO g N bs] (fun v L => v = .int .i64 (copyE N to from_) ∧ L = [refO g N (if copyE N to from_ = 0 then putF bs to (pageF bs from_) else bs)]) := by
  have hl := hmem.le
  have hfr := rframe_spec p g N to (by omega) (by omega)
  have hpg := rpage_spec p g N bs from_ hmem hN
  have hput := fun q : Nat => rput_spec p g N bs to (some ⟨q, 0, none⟩) 256 256 (pageF bs from_) hmem hN (by decide)
  rw [putE_256] at hput
  refine Ctr.intro Try.func33 rfl rfl (by decide +kernel) fun F hpre => ?_
  by_cases he : frameE N to = 0
  · rw [show copyE N to from_ = frameE N from_ from if_pos he]
    rw [he] at hfr hput
    rw [if_pos rfl] at hput
    by_cases he2 : frameE N from_ = 0
    · simp only [if_pos he2] at hpg
      rw [he2, if_pos rfl]
      repeat' (first | (refine XL_id ?_; first | refine XL_nil ?_ | (refine XG_call ?_; first | refine XL_fn hfr rfl rfl (fun g hg hL => blk_le hpre hg) ?_ | (refine XL_callK [] hpg rfl rfl (fun _ => rfl) (fun g hg hL => ⟨blk_le hpre hg, by exact rd_at 0 rfl hL⟩) (fun u L hv => ?_); obtain ⟨q, rfl, rfl⟩ := hv) | refine XL_callE [1] (hput _) rfl rfl rfl (fun g hg hL => ⟨blk_le hpre hg, rd_at 0 rfl hL⟩) ?_) | (refine XL_op tt_ok rfl rfl ?_; try (refine XL_dec_f (by omega) ?_))) | (refine X_id ?_; first | refine X_seq ?_ | (refine X_regionN (by repeat' (first | exact .nil | apply NL.cons)) ?_) | refine X_skip ?_ | refine X_ret ?_ | refine X_cond_f rfl ?_) | (refine Y_id ?_; refine Y_then ?_))
      exact Y_ret1 rfl rfl (stars_only [0] rfl) ⟨rfl, rfl⟩
    · simp only [if_neg he2] at hpg
      rw [if_neg he2]
      repeat' (first | (refine XL_id ?_; first | refine XL_nil ?_ | (refine XG_call ?_; first | refine XL_fn hfr rfl rfl (fun g hg hL => blk_le hpre hg) ?_ | (refine XL_callK [] hpg rfl rfl (fun _ => rfl) (fun g hg hL => ⟨blk_le hpre hg, by exact rd_at 0 rfl hL⟩) (fun u L hv => ?_); obtain ⟨rfl, rfl⟩ := hv)) | (refine XL_op tt_ok rfl rfl ?_; try (first | refine XL_dec_t (by omega) ?_ | refine XL_dec_f (by omega) ?_))) | (refine X_id ?_; first | refine X_seq ?_ | (refine X_regionN (by repeat' (first | exact .nil | apply NL.cons)) ?_) | refine X_skip ?_ | refine X_ret ?_ | refine X_cond_t rfl ?_ | refine X_cond_f rfl ?_) | (refine Y_id ?_; first | refine Y_then ?_ | refine Y_then_ret ?_))
      all_goals exact Y_ret1 rfl rfl (stars_only [0] rfl) ⟨rfl, rfl⟩
  · rw [show copyE N to from_ = frameE N to from if_neg he, if_neg he]
    repeat' (first | (refine XL_id ?_; first | refine XL_nil ?_ | (refine XG_call ?_; refine XL_fn hfr rfl rfl (fun g hg hL => blk_le hpre hg) ?_) | (refine XL_op tt_ok rfl rfl ?_; try (refine XL_dec_t (by omega) ?_))) | (refine X_id ?_; first | refine X_seq ?_ | (refine X_regionN (by repeat' (first | exact .nil | apply NL.cons)) ?_) | refine X_ret ?_ | refine X_cond_t rfl ?_) | (refine Y_id ?_; first | refine Y_then ?_ | refine Y_then_ret ?_))
    all_goals exact Y_ret1 rfl rfl (stars_only [0] rfl) ⟨rfl, rfl⟩
end Go.Proofs.Ytookjknlfkmemaa
