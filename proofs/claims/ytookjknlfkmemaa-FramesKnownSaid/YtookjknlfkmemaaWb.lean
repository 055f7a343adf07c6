/- Walks of the program's memory, on. -/
import Derived.Test.YtookjknlfkmemaaWa
set_option linter.unusedVariables false
namespace Go.Proofs.Ytookjknlfkmemaa
open Go.RowKit Go.Cof

theorem setByte_spec (p : Nat) (bs : List Int) (pa c : Int) (h0 : 0 ≤ pa) (h1 : pa < 18446744073709551616) (hc0 : 0 ≤ c) (hc1 : c < 256) :
    Ctr Try.prog 10 [.pointer (some ⟨p, 0, none⟩), .int .u64 pa, .int .u8 c] (fun _ => True) [isMem p bs] (fun v L => v = .int .i64 (runE bs.length pa 1) ∧ L = [isMem p (if runE bs.length pa 1 = 0 then bs.set pa.toNat c else bs)]) := by
  refine Ctr.intro Try.func10 rfl rfl (by decide +kernel) fun F hpre => ?_
  refine X_openp 0 rfl (fun _ h => h) fun x hx => ?_
  have hl := hx.le
  have hs := there_spec p x pa 1 (by omega) (by omega) h0 h1 (by decide) (by decide)
  rw [← hx.N]
  by_cases he : runE x.N pa 1 = 0
  · have hb := runE_ok he
    unfold thereR at hs
    rw [if_pos he] at hs ⊢
    repeat' (first | (refine X_seq ?_) | (refine X_region ?_) | (refine XL_nil ?_) | (refine Y_then ?_) | (refine X_ret ?_) | (refine X_cond_t rfl ?_) | (refine XL_op tt_ok rfl rfl ?_; try ((refine XL_dec_t (by omega) ?_))) | (refine XL_fn hs rfl rfl (fun g _ hL => blk_at 0 rfl hL) ?_) | (refine XL_idxl tt_ok rfl rfl rfl rfl rfl (by omega) (by omega) rfl ?_) | (refine XL_put1 tt_ok 1 c rfl rfl rfl rfl rfl rfl rfl (by omega) rfl ?_))
    refine Y_ret1 rfl rfl (stars_fin [0, 0, 0] rfl fun _ h => ⟨x, ⟨hx.mem.set _ hc0 hc1, by simpa using hx.N, hx.n⟩, h⟩) ⟨?_, rfl⟩
    rw [he] <;> rfl
  · unfold thereR at hs
    rw [if_neg he] at hs ⊢
    repeat' (first | (refine X_seq ?_) | (refine X_region ?_) | (refine XL_nil ?_) | (refine Y_then ?_) | (refine X_skip ?_) | (refine X_ret ?_) | (refine X_cond_f rfl ?_) | (refine XL_op tt_ok rfl rfl ?_; try ((refine XL_dec_f (by omega) ?_))) | (refine XL_fn hs rfl rfl (fun g _ hL => blk_at 0 rfl hL) ?_))
    exact Y_ret1 rfl rfl (stars_fin [0, 0, 0] rfl fun _ h => ⟨x, hx, h⟩) ⟨rfl, rfl⟩

theorem store_spec (p : Nat) (bs : List Int) (pa size v : Int) (h0 : 0 ≤ pa) (h1 : pa < 18446744073709551616) (h2 : -9223372036854775808 ≤ size) (h3 : size < 9223372036854775808) (hv0 : 0 ≤ v) (hv1 : v < 18446744073709551616) :
    Ctr Try.prog 11 [.pointer (some ⟨p, 0, none⟩), .int .u64 pa, .int .i64 size, .int .u64 v] (fun _ => True) [isMem p bs] (fun u L => u = .int .i64 (runE bs.length pa size) ∧ L = [isMem p (if runE bs.length pa size = 0 then storeF bs pa.toNat v size.toNat else bs)]) := by
  refine Ctr.intro Try.func11 rfl rfl (by decide +kernel) fun F hpre => ?_
  refine X_openp 0 rfl (fun _ h => h) fun x hx => ?_
  have hl := hx.le
  have hs := there_spec p x pa size (by omega) (by omega) h0 h1 h2 h3
  rw [← hx.N]
  by_cases he : runE x.N pa size = 0
  · have hb := runE_ok he
    unfold thereR at hs
    rw [if_pos he] at hs ⊢
    repeat' (first | (refine X_seq ?_) | (refine X_region ?_) | (refine XL_nil ?_) | (refine Y_then ?_) | (refine X_block ?_) | (refine XL_op tt_ok rfl rfl ?_) | (refine XL_fn hs rfl rfl (fun g _ hL => blk_at 0 rfl hL) ?_))
    refine X_loop (ι := Nat) (fun i => [(9, .slice (some ⟨x.g, pa.toNat, none⟩) size.toNat (x.N - pa.toNat)), (10, .int .i64 0), (3, .int .u64 v), (21, .int .i64 i), (20, .int .i64 (size.toNat : Nat))]) (fun i => memP p x (storeF bs pa.toNat v i)) (fun i => i ≤ size.toNat) (fun i => size.toNat - i) 0 (Nat.zero_le _) (by repeat' (first | exact trivial | refine And.intro rfl ?_)) (fun _ h => h) ?_
    intro i hi
    have hd : IntKind.u8.wrap (v / 2 ^ min (8 * (i : Int)).toNat IntKind.u64.bits) = v / 256 ^ i % 256 ∨ size.toNat ≤ i := by
      by_cases h : size.toNat ≤ i
      · exact .inr h
      · left; rw [p256' (by omega) (by omega), Int.toNat_natCast, wrap_u8']
    repeat' (first | (refine X_seq ?_) | (refine X_region ?_) | (refine XL_nil ?_) | (refine Y_then ?_) | (refine Y_then_exit ?_) | (refine Y_block_hit ?_) | (refine Y_block_normal ?_) | (refine X_skip ?_) | (refine X_ret ?_) | (refine X_exit ?_) | (refine X_block ?_) | (refine X_cond_t rfl ?_) | (refine X_cond_f rfl ?_) | (refine XL_op tt_ok rfl rfl ?_; try (first | (refine XL_int (wrap_i64 (by omega) (by omega)) ?_) | (refine XL_dec (fun _ => ?_) (fun _ => ?_)))) | (refine XL_idxl tt_ok rfl rfl rfl rfl rfl (by omega) (by omega) rfl ?_) | (refine XL_put1 tt_ok 1 (IntKind.u8.wrap (v / 2 ^ min (8 * (i : Int)).toNat IntKind.u64.bits)) rfl rfl rfl rfl rfl rfl rfl (by omega) rfl ?_))
    · refine Y_round (i + 1) (by omega) (by omega) (by repeat' (first | exact trivial | refine And.intro rfl ?_)) (fun _ h => ?_)
      have e2 : storeF bs pa.toNat v (i + 1) = (storeF bs pa.toNat v i).set (pa.toNat + (i : Int).toNat * 1) (IntKind.u8.wrap (v / 2 ^ min (8 * (i : Int)).toNat IntKind.u64.bits)) := by
        rw [hd.resolve_right (by omega), Int.toNat_natCast, Nat.mul_one]; rfl
      rw [e2]
      exact h
    · obtain rfl : i = size.toNat := by omega
      refine Y_ret1 rfl rfl (stars_fin [0, 0, 0] rfl fun _ h => ⟨x, ⟨hx.mem.store _ _ _, by rw [storeF_length]; exact hx.N, hx.n⟩, h⟩) ⟨?_, rfl⟩
      rw [he]
  · unfold thereR at hs
    rw [if_neg he] at hs ⊢
    repeat' (first | (refine X_seq ?_) | (refine X_region ?_) | (refine XL_nil ?_) | (refine Y_then ?_) | (refine X_block ?_) | (refine XL_op tt_ok rfl rfl ?_) | (refine XL_fn hs rfl rfl (fun g _ hL => blk_at 0 rfl hL) ?_))
    refine X_loop (ι := Unit) (fun i => [(10, .int .i64 (runE x.N pa size)), (21, .int .i64 0), (20, .int .i64 0)]) (fun i => memP p x bs) (fun i => True) (fun i => 0) () trivial (by repeat' (first | exact trivial | refine And.intro rfl ?_)) (fun _ h => h) ?_
    intro i hi
    repeat' (first | (refine X_seq ?_) | (refine X_region ?_) | (refine XL_nil ?_) | (refine Y_then ?_) | (refine Y_then_exit ?_) | (refine Y_block_hit ?_) | (refine X_ret ?_) | (refine X_exit ?_) | (refine X_cond_f rfl ?_) | (refine XL_op tt_ok rfl rfl ?_; try ((refine XL_dec_f (by omega) ?_))))
    exact Y_ret1 rfl rfl (stars_fin [0, 0, 0] rfl fun _ h => ⟨x, hx, h⟩) ⟨rfl, rfl⟩
theorem load_step {bs : List Int} (hm : Mem bs) {o i : Nat} (hi : i < 8) :
    bits .or .u64 (loadF bs o i) (IntKind.u64.wrap (byteAt bs (o + i) * 2 ^ min (8 * (i : Int)).toNat IntKind.u64.bits)) = loadF bs o (i + 1) := by
  have h1 := loadF_bd hm o i
  have h2 := hm.at (o + i)
  have hp := pow256_pos i
  have hle : (256 : Int) ^ (i + 1) ≤ 18446744073709551616 := pow256_le (by omega)
  have h3 : byteAt bs (o + i) * 256 ^ i ≤ 255 * 256 ^ i := Int.mul_le_mul_of_nonneg_right (by omega) (Int.le_of_lt hp)
  have h4 : 0 ≤ byteAt bs (o + i) * 256 ^ i := Int.mul_nonneg h2.1 (Int.le_of_lt hp)
  have h5 : (256 : Int) ^ (i + 1) = 256 ^ i * 256 := Int.pow_succ _ _
  rw [p256' (by omega) (by omega), Int.toNat_natCast, wrap_u64 h4 (by omega), or_comm_u64, or_u64 (8 * i) h4 (by rw [p256]; exact Int.mul_emod_left _ _) (by omega) h1.1 (by rw [p256]; exact h1.2) (by omega)]
  simp only [loadF]
  omega

theorem load_step' {bs : List Int} (hm : Mem bs) {o i : Nat} (hi : i < 8) :
    bits .or .u64 (loadF bs o i) (IntKind.u64.wrap (IntKind.u64.wrap (bs.getD (o + (i : Int).toNat * 1) default) * 2 ^ min (8 * (i : Int)).toNat IntKind.u64.bits)) = loadF bs o (i + 1) := by
  have h := hm.at (o + i)
  rw [← load_step hm hi, Int.toNat_natCast, Nat.mul_one]
  show bits _ _ _ (IntKind.u64.wrap (IntKind.u64.wrap (byteAt bs (o + i)) * _)) = _
  rw [wrap_u64 h.1 (by omega)]

theorem load_spec (p : Nat) (bs : List Int) (pa size : Int) (h0 : 0 ≤ pa) (h1 : pa < 18446744073709551616) (h2 : -9223372036854775808 ≤ size) (h3 : size < 9223372036854775808) :
    Ctr Try.prog 13 [.pointer (some ⟨p, 0, none⟩), .int .u64 pa, .int .i64 size] (fun _ => True) [isMem p bs] (fun v L => v = .tuple #[.int .u64 (if runE bs.length pa size = 0 then loadF bs pa.toNat size.toNat else 0), .int .i64 (runE bs.length pa size)] ∧ L = [isMem p bs]) := by
  refine Ctr.intro Try.func13 rfl rfl (by decide +kernel) fun F hpre => ?_
  refine X_openp 0 rfl (fun _ h => h) fun x hx => ?_
  have hl := hx.le
  have hs := there_spec p x pa size (by omega) (by omega) h0 h1 h2 h3
  rw [← hx.N]
  by_cases he : runE x.N pa size = 0
  · have hb := runE_ok he
    unfold thereR at hs
    rw [if_pos he] at hs ⊢
    repeat' (first | (refine X_seq ?_) | (refine X_region ?_) | (refine XL_nil ?_) | (refine Y_then ?_) | (refine X_skip ?_) | (refine X_block ?_) | (refine X_cond_f rfl ?_) | (refine XL_op tt_ok rfl rfl ?_; try ((refine XL_dec_f (by omega) ?_))) | (refine XL_fn hs rfl rfl (fun g _ hL => blk_at 0 rfl hL) ?_))
    refine X_loop (ι := Nat) (fun i => [(10, .int .u64 (loadF bs pa.toNat i)), (25, .int .i64 i), (24, .int .i64 (size.toNat : Nat)), (23, .slice (some ⟨x.g, pa.toNat, none⟩) size.toNat (x.N - pa.toNat))]) (fun _ => memP p x bs) (fun i => i ≤ size.toNat) (fun i => size.toNat - i) 0 (Nat.zero_le _) (by repeat' (first | exact trivial | refine And.intro rfl ?_)) (fun _ h => h) ?_
    intro i hi
    repeat' (first | (refine X_seq ?_) | (refine X_region ?_) | (refine XL_nil ?_) | (refine Y_then ?_) | (refine Y_then_exit ?_) | (refine Y_block_hit ?_) | (refine Y_block_normal ?_) | (refine X_skip ?_) | (refine X_ret ?_) | (refine X_exit ?_) | (refine X_block ?_) | (refine X_cond_t rfl ?_) | (refine X_cond_f rfl ?_) | (refine XL_op tt_ok rfl rfl ?_; try (first | (refine XL_int (wrap_i64 (by omega) (by omega)) ?_) | (refine XL_dec (fun _ => ?_) (fun _ => ?_)))) | (refine XL_idxl tt_ok rfl rfl rfl rfl rfl (by omega) (by omega) rfl ?_) | (refine XL_at tt_ok 1 rfl rfl rfl (by omega) rfl rfl rfl rfl ?_))
    · refine Y_round (i + 1) (by omega) (by omega) (And.intro ?_ (by repeat' (first | exact trivial | refine And.intro rfl ?_))) (fun _ h => h)
      exact congrArg (fun z => some (Value.int IntKind.u64 z)) (load_step' hx.mem (by omega))
    · refine Y_ret2 rfl rfl rfl (stars_fin [0, 0, 0] rfl fun _ h => ⟨x, hx, h⟩) ⟨?_, rfl⟩
      obtain rfl : i = size.toNat := by omega
      rw [he] <;> rfl
  · unfold thereR at hs
    rw [if_neg he] at hs ⊢
    repeat' (first | (refine X_seq ?_) | (refine X_region ?_) | (refine XL_nil ?_) | (refine Y_then ?_) | (refine Y_then_ret ?_) | (refine X_ret ?_) | (refine X_cond_t rfl ?_) | (refine XL_op tt_ok rfl rfl ?_; try ((refine XL_dec_t (by omega) ?_))) | (refine XL_fn hs rfl rfl (fun g _ hL => blk_at 0 rfl hL) ?_))
    refine Y_ret2 rfl rfl rfl (stars_fin [0, 0, 0] rfl fun _ h => ⟨x, hx, h⟩) ⟨rfl, rfl⟩

/-- A page that is told: bytes of its own. -/
theorem pageOf_spec (p : Nat) (bs : List Int) (f : Int) (h2 : -9223372036854775808 ≤ f) (h3 : f < 9223372036854775808) :
    Ctr Try.prog 15 [.pointer (some ⟨p, 0, none⟩), .int .i64 f] (fun _ => True) [isMem p bs] (fun v L => if frameE bs.length f = 0 then ∃ b, v = .tuple #[.slice (some ⟨b, 0, none⟩) 256 256, .int .i64 0] ∧ L = [own (encI .u8) (some ⟨b, 0, none⟩) 256 256 (pageF bs f), isMem p bs] else v = .tuple #[.slice none 0 0, .int .i64 (frameE bs.length f)] ∧ L = [isMem p bs]) := by
  refine Ctr.intro Try.func15 rfl rfl (by decide +kernel) fun F hpre => ?_
  refine X_openp 0 rfl (fun _ h => h) fun x hx => ?_
  have hl := hx.le
  have hs := page_spec p x f bs hx h2 h3
  rw [← hx.N]
  by_cases he : frameE x.N f = 0
  · have hb := frameE_ok he
    unfold pageR at hs
    rw [if_pos he] at hs
    simp only [if_pos he]
    repeat' (first | (refine X_seq ?_) | (refine X_region ?_) | (refine XL_nil ?_) | (refine Y_then ?_) | (refine X_skip ?_) | (refine X_ret ?_) | (refine X_cond_f rfl ?_) | (refine XL_op tt_ok rfl rfl ?_; try ((refine XL_dec_f (by omega) ?_))) | (refine XL_fn hs rfl rfl (fun g _ hL => ⟨blk_at 0 rfl hL, rd_at 2 rfl hL⟩) ?_) | (refine XL_arr tt_ok rfl rfl rfl (Nat.le_refl _) rfl ?_) | (refine XL_loadA tt_ok 1 rfl rfl rfl (by omega) rfl rfl rfl rfl ?_) | (refine XL_alloc tt_ok rfl rfl (fun _ => rfl) (fun b => ?_)) | (refine XL_storeA tt_ok 0 rfl rfl rfl rfl ?_ ?_ (flat_one _ _) ?_) | (refine XL_slicea tt_ok rfl rfl rfl rfl rfl ?_))
    · rw [flat_length, show (List.take 256 (List.drop (f.toNat * 256) bs)).length = 256 from by
        have := hx.N; rw [List.length_take, List.length_drop]; omega]; rfl
    · exact List.length_replicate
    · refine Y_ret2 rfl rfl rfl (stars_two [0] [0, 0, 0] rfl rfl (fun _ h => own_of_blk (stars_blk h) ?_ rfl (by decide)) fun _ h => ⟨x, hx, h⟩) ⟨b, rfl, rfl⟩
      have := hx.N
      rw [List.length_take, List.length_drop]; omega
  · unfold pageR at hs
    rw [if_neg he] at hs
    simp only [if_neg he]
    repeat' (first | (refine X_seq ?_) | (refine X_region ?_) | (refine XL_nil ?_) | (refine Y_then ?_) | (refine Y_then_ret ?_) | (refine X_ret ?_) | (refine X_cond_t rfl ?_) | (refine XL_op tt_ok rfl rfl ?_; try ((refine XL_dec_t (by omega) ?_))) | (refine XL_fn hs rfl rfl (fun g _ hL => ⟨blk_at 0 rfl hL, rd_at 2 rfl hL⟩) ?_))
    exact Y_ret2 rfl rfl rfl (stars_fin [0, 0, 0] rfl fun _ h => ⟨x, hx, h⟩) ⟨rfl, rfl⟩

/-- A page's bytes lie where its slice says. -/
theorem page_rd {x : MX} {bs : List Int} (hx : MOk x bs) {f : Int} (hb : 0 ≤ f ∧ f < (x.N : Int) / 256) {F : Frz} {w : World} {L : List HProp} (hw : St F w L) (hk : L[1]? = some (own (encI .u8) (some ⟨x.g, 0, none⟩) x.N x.N bs)) : rdS (encI .u8) (World.hp w) (some ⟨x.g, f.toNat * 256, none⟩) 256 (pageF bs f) := by
  obtain ⟨g, hg, _, hA⟩ := hw.at hk
  have hl := hx.le
  have h := ((own_rd hA).le hg).sub (l := f.toNat * 256) (k := f.toNat * 256 + 256) (cc := x.N) (by omega) (by omega) (by omega)
  rw [show f.toNat * 256 + 256 - f.toNat * 256 = 256 from by omega, sbA_lit (by omega), Nat.zero_add] at h
  have e1 : (bs.take (f.toNat * 256 + 256)).drop (f.toNat * 256) = pageF bs f := by
    unfold pageF
    rw [List.drop_take]
    congr 1
    omega
  rw [e1] at h
  simpa [encI] using h

theorem put_spec (p : Nat) (bs : List Int) (f : Int) (A : Option Addr) (m c : Nat) (ys : List Int) (h2 : -9223372036854775808 ≤ f) (h3 : f < 9223372036854775808) (hm : m ≤ 9223372036854775807) (hy : ∀ y ∈ ys, 0 ≤ y ∧ y < 256) :
    Ctr Try.prog 18 [.pointer (some ⟨p, 0, none⟩), .int .i64 f, .slice A m c] (fun h => rdS (encI .u8) h A m ys) [isMem p bs] (fun v L => if frameE bs.length f = 0 then (if m = 256 then v = .int .i64 0 ∧ L = [isMem p (putF bs f ys)] else v = .int .i64 2 ∧ L = [isMem p bs]) else v = .int .i64 (frameE bs.length f) ∧ L = [isMem p bs]) := by
  refine Ctr.intro Try.func18 rfl rfl (by decide +kernel) fun F hpre => ?_
  refine X_openp 0 rfl (fun _ h => h) fun x hx => ?_
  have hl := hx.le
  have hs := page_spec p x f bs hx h2 h3
  rw [← hx.N]
  by_cases he : frameE x.N f = 0
  · have hb := frameE_ok he
    unfold pageR at hs
    rw [if_pos he] at hs
    simp only [if_pos he]
    by_cases hm2 : m = 256
    · subst hm2
      simp only [if_true]
      repeat' (first | (refine X_seq ?_) | (refine X_region ?_) | (refine XL_nil ?_) | (refine Y_then ?_) | (refine X_skip ?_) | (refine X_ret ?_) | (refine X_cond_f rfl ?_) | (refine XL_op tt_ok rfl rfl ?_; try ((refine XL_dec_f (by omega) ?_))) | (refine XL_fn hs rfl rfl (fun g _ hL => ⟨blk_at 0 rfl hL, rd_at 2 rfl hL⟩) ?_) | (refine XL_copy tt_ok 1 (f.toNat * 256) rfl rfl (Nat.mul_one _).symm (fun w hw => hpre.le hw.frz) ?_ rfl rfl rfl rfl rfl ?_))
      · show f.toNat * 256 + 256 ≤ x.N; omega
      · refine Y_ret1 rfl rfl (stars_fin [0, 0, 0] rfl fun _ h => ⟨x, ⟨hx.mem.put hb.1 (by have := hx.N; omega) hpre.1.symm hy, ?_, hx.n⟩, ?_⟩) ⟨rfl, rfl⟩
        · rw [putF_length hb.1 (by have := hx.N; omega) hpre.1.symm]; exact hx.N
        · have e2 : putF bs f ys = bs.take (f.toNat * 256) ++ ys.take (Nat.min 256 256) ++ bs.drop (f.toNat * 256 + Nat.min 256 256) := by
            unfold putF
            rw [show Nat.min 256 256 = 256 from rfl, List.take_of_length_le (l := ys) (by have := hpre.1; omega)]
          rw [e2]
          exact h
    · simp only [if_neg hm2]
      repeat' (first | (refine X_seq ?_) | (refine X_region ?_) | (refine XL_nil ?_) | (refine Y_then ?_) | (refine Y_then_ret ?_) | (refine X_skip ?_) | (refine X_ret ?_) | (refine X_cond_t rfl ?_) | (refine X_cond_f rfl ?_) | (refine XL_op tt_ok rfl rfl ?_; try (first | (refine XL_dec_t (by omega) ?_) | (refine XL_dec_f (by omega) ?_))) | (refine XL_fn hs rfl rfl (fun g _ hL => ⟨blk_at 0 rfl hL, rd_at 2 rfl hL⟩) ?_))
      exact Y_ret1 rfl rfl (stars_fin [0, 0, 0] rfl fun _ h => ⟨x, hx, h⟩) ⟨rfl, rfl⟩
  · unfold pageR at hs
    rw [if_neg he] at hs
    simp only [if_neg he]
    repeat' (first | (refine X_seq ?_) | (refine X_region ?_) | (refine XL_nil ?_) | (refine Y_then ?_) | (refine Y_then_ret ?_) | (refine X_ret ?_) | (refine X_cond_t rfl ?_) | (refine XL_op tt_ok rfl rfl ?_; try ((refine XL_dec_t (by omega) ?_))) | (refine XL_fn hs rfl rfl (fun g _ hL => ⟨blk_at 0 rfl hL, rd_at 2 rfl hL⟩) ?_))
    exact Y_ret1 rfl rfl (stars_fin [0, 0, 0] rfl fun _ h => ⟨x, hx, h⟩) ⟨rfl, rfl⟩

theorem zero_spec (p : Nat) (bs : List Int) (f : Int) (h2 : -9223372036854775808 ≤ f) (h3 : f < 9223372036854775808) :
    Ctr Try.prog 19 [.pointer (some ⟨p, 0, none⟩), .int .i64 f] (fun _ => True) [isMem p bs] (fun v L => v = .int .i64 (frameE bs.length f) ∧ L = [isMem p (if frameE bs.length f = 0 then putF bs f (List.replicate 256 0) else bs)]) := by
  refine Ctr.intro Try.func19 rfl rfl (by decide +kernel) fun F hpre => ?_
  refine X_openp 0 rfl (fun _ h => h) fun x hx => ?_
  have hl := hx.le
  have hs := page_spec p x f bs hx h2 h3
  rw [← hx.N]
  by_cases he : frameE x.N f = 0
  · have hb := frameE_ok he
    unfold pageR at hs
    rw [if_pos he] at hs ⊢
    repeat' (first | (refine X_seq ?_) | (refine X_region ?_) | (refine XL_nil ?_) | (refine Y_then ?_) | (refine X_ret ?_) | (refine XL_op tt_ok rfl rfl ?_) | (refine XL_fn hs rfl rfl (fun g _ hL => ⟨blk_at 0 rfl hL, rd_at 2 rfl hL⟩) ?_) | (refine XL_clear tt_ok 1 (f.toNat * 256) (0 : Int) rfl rfl (Nat.mul_one _).symm (by omega) rfl rfl rfl rfl rfl rfl rfl ?_))
    refine Y_ret1 rfl rfl (stars_fin [0, 0, 0] rfl fun _ h => ⟨x, ⟨hx.mem.put hb.1 (by have := hx.N; omega) List.length_replicate (fun y hy => by rw [List.eq_of_mem_replicate hy]; decide), ?_, hx.n⟩, h⟩) ⟨?_, rfl⟩
    · rw [he] <;> rfl
    · rw [putF_length hb.1 (by have := hx.N; omega) List.length_replicate]; exact hx.N
  · unfold pageR at hs
    rw [if_neg he] at hs ⊢
    repeat' (first | (refine X_seq ?_) | (refine X_region ?_) | (refine XL_nil ?_) | (refine Y_then ?_) | (refine X_ret ?_) | (refine XL_op tt_ok rfl rfl ?_) | (refine XL_fn hs rfl rfl (fun g _ hL => ⟨blk_at 0 rfl hL, rd_at 2 rfl hL⟩) ?_) | (refine XL_clear0 tt_ok rfl rfl rfl rfl ?_))
    exact Y_ret1 rfl rfl (stars_fin [0, 0, 0] rfl fun _ h => ⟨x, hx, h⟩) ⟨rfl, rfl⟩

def copyE (N : Nat) (to from_ : Int) : Int := if frameE N to = 0 then frameE N from_ else frameE N to
theorem copy_spec (p : Nat) (bs : List Int) (to from_ : Int) (h2 : -9223372036854775808 ≤ to) (h3 : to < 9223372036854775808) (h4 : -9223372036854775808 ≤ from_) (h5 : from_ < 9223372036854775808) :
    Ctr Try.prog 14 [.pointer (some ⟨p, 0, none⟩), .int .i64 to, .int .i64 from_] (fun _ => True) [isMem p bs] (fun v L => v = .int .i64 (copyE bs.length to from_) ∧ L = [isMem p (if copyE bs.length to from_ = 0 then putF bs to (pageF bs from_) else bs)]) := by
  refine Ctr.intro Try.func14 rfl rfl (by decide +kernel) fun F hpre => ?_
  refine X_openp 0 rfl (fun _ h => h) fun x hx => ?_
  have hl := hx.le
  have hs := page_spec p x to bs hx h2 h3
  have hs2 := page_spec p x from_ bs hx h4 h5
  rw [← hx.N]
  by_cases he : frameE x.N to = 0
  · have hb := frameE_ok he
    have hc : copyE x.N to from_ = frameE x.N from_ := by unfold copyE; rw [if_pos he]
    rw [hc]
    unfold pageR at hs hs2
    rw [if_pos he] at hs
    by_cases he2 : frameE x.N from_ = 0
    · have hb2 := frameE_ok he2
      rw [if_pos he2] at hs2 ⊢
      have hlen : (pageF bs from_).length = 256 := pageF_length hb2.1 (by have := hx.N; omega)
      repeat' (first | (refine X_seq ?_) | (refine X_region ?_) | (refine XL_nil ?_) | (refine Y_then ?_) | (refine X_skip ?_) | (refine X_ret ?_) | (refine X_cond_f rfl ?_) | (refine XL_op tt_ok rfl rfl ?_; try ((refine XL_dec_f (by omega) ?_))) | (refine XL_fn hs rfl rfl (fun g _ hL => ⟨blk_at 0 rfl hL, rd_at 2 rfl hL⟩) ?_) | (refine XL_fn hs2 rfl rfl (fun g _ hL => ⟨blk_at 0 rfl hL, rd_at 2 rfl hL⟩) ?_) | (refine XL_copy tt_ok 1 (to.toNat * 256) rfl rfl (Nat.mul_one _).symm (fun w hw => page_rd hx hb2 hw rfl) ?_ rfl rfl rfl rfl rfl ?_))
      · show to.toNat * 256 + 256 ≤ x.N; omega
      · refine Y_ret1 rfl rfl (stars_fin [0, 0, 0] rfl fun _ h => ⟨x, ⟨hx.mem.put hb.1 (by have := hx.N; omega) hlen (pageF_byte hx.mem), ?_, hx.n⟩, ?_⟩) ⟨?_, rfl⟩
        · rw [he2]
        · rw [putF_length hb.1 (by have := hx.N; omega) hlen]; exact hx.N
        · have e2 : putF bs to (pageF bs from_) = bs.take (to.toNat * 256) ++ (pageF bs from_).take (Nat.min 256 256) ++ bs.drop (to.toNat * 256 + Nat.min 256 256) := by
            unfold putF
            rw [show Nat.min 256 256 = 256 from rfl, List.take_of_length_le (l := pageF bs from_) (by omega)]
          rw [e2]
          exact h
    · rw [if_neg he2] at hs2 ⊢
      repeat' (first | (refine X_seq ?_) | (refine X_region ?_) | (refine XL_nil ?_) | (refine Y_then ?_) | (refine Y_then_ret ?_) | (refine X_skip ?_) | (refine X_ret ?_) | (refine X_cond_t rfl ?_) | (refine X_cond_f rfl ?_) | (refine XL_op tt_ok rfl rfl ?_; try (first | (refine XL_dec_t (by omega) ?_) | (refine XL_dec_f (by omega) ?_))) | (refine XL_fn hs rfl rfl (fun g _ hL => ⟨blk_at 0 rfl hL, rd_at 2 rfl hL⟩) ?_) | (refine XL_fn hs2 rfl rfl (fun g _ hL => ⟨blk_at 0 rfl hL, rd_at 2 rfl hL⟩) ?_))
      exact Y_ret1 rfl rfl (stars_fin [0, 0, 0] rfl fun _ h => ⟨x, hx, h⟩) ⟨rfl, rfl⟩
  · have hc : copyE x.N to from_ = frameE x.N to := by unfold copyE; rw [if_neg he]
    rw [hc]
    unfold pageR at hs
    rw [if_neg he] at hs ⊢
    repeat' (first | (refine X_seq ?_) | (refine X_region ?_) | (refine XL_nil ?_) | (refine Y_then ?_) | (refine Y_then_ret ?_) | (refine X_ret ?_) | (refine X_cond_t rfl ?_) | (refine XL_op tt_ok rfl rfl ?_; try ((refine XL_dec_t (by omega) ?_))) | (refine XL_fn hs rfl rfl (fun g _ hL => ⟨blk_at 0 rfl hL, rd_at 2 rfl hL⟩) ?_))
    exact Y_ret1 rfl rfl (stars_fin [0, 0, 0] rfl fun _ h => ⟨x, hx, h⟩) ⟨rfl, rfl⟩
end Go.Proofs.Ytookjknlfkmemaa
