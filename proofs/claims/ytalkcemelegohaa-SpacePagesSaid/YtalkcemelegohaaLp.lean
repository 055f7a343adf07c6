/- Walks for the pages that are looked at: page, near, changed, some, seen. -/
import Derived.Test.YtalkcemelegohaaPp
import Derived.Test.YtalkcemelegohaaLd
import Derived.Test.YtalkcemelegohaaLb
import Derived.Test.YtalkcemelegohaaSlS
set_option linter.unusedVariables false
set_option maxRecDepth 100000
namespace Go.Proofs.Ytalkcemelegohaa
open Go.RowKit Go.Cof
open Vm (Rg encRg rgV atP mc)

abbrev arV (xs : List Int) : Value := .agg (flat (Cof.encI .u8) xs).toArray
theorem page_spec (i : Nat) (hi : i ≤ 280) : FnC Try.prog 62 [iV i] (fun _ => True) (iV (pageN i)) := by
  unfold pageN
  refine Ctr.intro Try.func62 rfl rfl (by decide +kernel) fun F hpre => ?_
  repeat' (first | (refine XL_id ?_; first | refine XL_nil ?_ | (refine XL_op tt_ok rfl rfl ?_; try (first | refine XL_int (wrap_i64 (by omega) (by omega)) ?_ | refine XL_dec (fun _ => ?_) (fun _ => ?_)))) | (refine X_id ?_; first | refine X_seq ?_ | (refine X_regionN (by repeat' (exact .nil)) ?_) | refine X_skip ?_ | refine X_ret ?_ | refine X_cond_t rfl ?_ | refine X_cond_f rfl ?_) | (refine Y_id ?_; first | refine Y_then ?_ | refine Y_then_ret ?_))
  all_goals first
    | exact Y_fn1 rfl rfl (by rw [if_pos (by omega)])
    | exact Y_fn1 rfl rfl (by rw [if_neg (by omega)])
    | skip
  
theorem near_spec (k p n q : Int) (h1 : -9223372036854775808 ≤ p ∧ p ≤ 9223372036854775807) (h2 : -9223372036854775808 ≤ n ∧ n ≤ 9223372036854775807) :
    Ctr Try.prog 59 [.agg #[iV k, iV p, iV n, bV q]] (fun _ => True) [] (fun v L => ∃ f m, Near f m ∧ v = .tuple #[iV f, iV m] ∧ L = []) := by
  have w1 := Gx.within_spec n 12 h2.1 h2.2 (by omega) (by omega)
  have w2 := Gx.within_spec p 150 h1.1 h1.2 (by omega) (by omega)
  have b1 : 0 ≤ n % 12 ∧ n % 12 < 12 := by omega
  have b2 : 0 ≤ p % 150 ∧ p % 150 < 150 := by omega
  obtain ⟨n', hn'⟩ : ∃ x, n % 12 = x := ⟨_, rfl⟩
  obtain ⟨p', hp'⟩ : ∃ x, p % 150 = x := ⟨_, rfl⟩
  rw [hn'] at w1 b1
  rw [hp'] at w2 b2
  have w3 := Gx.within_spec p (40 - (1 + n') + 1) h1.1 h1.2 (by omega) (by omega)
  have b3 : 0 ≤ p % (40 - (1 + n') + 1) ∧ p % (40 - (1 + n') + 1) < 40 - (1 + n') + 1 := ⟨Int.emod_nonneg _ (by omega), Int.emod_lt_of_pos _ (by omega)⟩
  obtain ⟨z, hz⟩ : ∃ x, p % (40 - (1 + n') + 1) = x := ⟨_, rfl⟩
  rw [hz] at w3 b3
  refine Ctr.intro Try.func59 rfl rfl (by decide +kernel) fun F hpre => ?_
  repeat' (first | (refine XL_id ?_; first | refine XL_nil ?_ | (refine XG_load ?_; refine XL_load tt_ok 0 rfl rfl rfl rfl rfl rfl ?_) | (refine XG_box ?_; (refine XL_box rfl (fun _ => rfl) (fun _ => ?_); refine XL_nB (by repeat' (first | exact .nil | apply NL.cons)) ?_)) | (refine XG_call ?_; first | refine XL_fn w1 rfl rfl (fun _ _ _ => trivial) ?_ | refine XL_fn w2 rfl rfl (fun _ _ _ => trivial) ?_ | refine XL_fn w3 rfl rfl (fun _ _ _ => trivial) ?_) | (refine XL_op tt_ok rfl rfl ?_; try (first | refine XL_int (wrap_i64 (by omega) (by omega)) ?_ | refine XL_dec (fun _ => ?_) (fun _ => ?_)))) | (refine X_id ?_; first | refine X_seq ?_ | (refine X_regionN (by repeat' (first | exact .nil | apply NL.cons)) ?_) | refine X_skip ?_ | refine X_ret ?_ | refine X_cond_t rfl ?_ | refine X_cond_f rfl ?_) | (refine Y_id ?_; refine Y_then ?_))
  all_goals first
    | exact Y_res2 rfl (.tmp rfl) (.tmp rfl) (L' := []) (fun _ _ => trivial) ⟨_, _, ⟨by omega, by omega⟩, rfl, rfl⟩
    | skip
  
theorem partV_all {T : Tab} {α : Type} {E : Enc α} {t el : TypeId} {len : Nat} {xs : List α} {ti : TI} (hz : E.sz = 1) (h1 : xs.length = len) (ht : Cof.look T t = some ti) (hd : ti.desc = .array len el) (hsz : ti.size = len) : partV T t (flat E xs) 0 = some (.agg (flat E xs).toArray) := by
  have hagg : ti.agg = true := by unfold TI.agg; rw [hd]
  simp only [partV, ht, hagg, cond_true, List.drop_zero]
  rw [List.take_of_length_le (by rw [flat_length, hsz, hz, h1]; omega)]
theorem cells_flat (xs : List Int) : (arV xs).cells.toList = flat (Cof.encI .u8) xs := rfl
theorem own_ar {b : Nat} {xs : List Int} (hx : xs.length = 280) {t : TypeId} {h : Hp} (o : blk b (arV xs).cells.toList t h) : own (Cof.encI .u8) (some ⟨b, 0, none⟩) 280 280 xs h := own_of_blk o hx.symm (cells_flat xs) (by decide)
set_option maxHeartbeats 16000000 in
theorem changed_spec (xs : List Int) (hx : xs.length = 280) (f n put : Int) (hf : 0 ≤ f ∧ f ≤ 1048576) (hn : 0 ≤ n ∧ n ≤ 1024) (hp : 0 ≤ put ∧ put < 256) :
    FnC Try.prog 60 [arV xs, iV f, iV n, bV put] (fun _ => True) (arV (chg xs f n put)) := by
  refine Ctr.intro Try.func60 rfl rfl (by decide +kernel) fun F hpre => ?_
  repeat' (first | (refine XL_id ?_; first | refine XL_nil ?_ | (refine XG_box ?_; (refine XL_box rfl (fun _ => rfl) (fun b4 => ?_); refine XL_conv 0 (own (Cof.encI .u8) (some ⟨b4, 0, none⟩) 280 280 xs) rfl (fun h o => own_ar hx o) ?_)) | (refine XG_alloc ?_; refine XL_alloc tt_ok rfl rfl (fun _ => rfl) (fun b8 => ?_)) | (refine XL_op tt_ok rfl rfl ?_)) | (refine X_id ?_; first | refine X_block (hold ?_) | refine X_seq ?_ | (refine X_regionN (by repeat' (first | exact .nil | apply NL.cons)) ?_)) | (refine Y_id ?_; refine Y_then ?_))
  intro _
  refine X_loopD2 [1, 2, 3, 4, 8] (fun (i : Nat) (ys : List Int) => [(9, .int .i64 i)]) (fun _ ys => [_, own (Cof.encI .u8) (some ⟨b4, 0, none⟩) 280 280 ys]) (fun i ys => i ≤ 280 ∧ ys.length = 280 ∧ ∀ j : Nat, j < 280 → Cof.get ys (j : Int) = if j < i ∧ f ≤ pageN j ∧ pageN j < f + n then put else Cof.get xs (j : Int)) (fun i _ => 280 - i) 0 xs rfl ⟨Nat.zero_le _, hx, fun j hj => by rw [if_neg (by omega)]⟩ (by (repeat' (first | exact trivial | refine And.intro rfl ?_)); done) (fun _ h => h) ?_
  intro i ys hi
  obtain ⟨hi, hy, hg⟩ := hi
  by_cases hlt : i < 280
  · have hpg := page_spec i hi
    have hpr : 0 ≤ pageN i ∧ pageN i < 524408 := by unfold pageN; split <;> omega
    obtain ⟨P, hP⟩ : ∃ P, pageN i = P := ⟨_, rfl⟩
    rw [hP] at hpg hpr
    by_cases hin : f ≤ P ∧ P < f + n
    · repeat' (first | (refine XL_id ?_; first | refine XL_nil ?_ | refine XL_guard_yes rfl rfl rfl ?_ | (refine XG_idx ?_; refine XL_idxal tt_ok rfl rfl rfl rfl rfl (by omega) (by omega) rfl ?_) | (refine XG_call ?_; refine XL_fn hpg rfl rfl (fun _ _ _ => trivial) ?_) | (refine XG_store ?_; refine XL_put1 tt_ok 1 put rfl rfl rfl rfl rfl rfl rfl (by omega) rfl ?_) | (refine XL_op tt_ok rfl rfl ?_; try (first | refine XL_int (wrap_i64 (by omega) (by omega)) ?_ | refine XL_dec_t (by omega) ?_))) | (refine X_id ?_; first | refine X_seq ?_ | (refine X_regionN (by repeat' (first | exact .nil | apply NL.cons)) ?_) | refine X_skip ?_ | refine X_block ?_ | refine X_cond_t rfl ?_) | (refine Y_id ?_; first | refine Y_then ?_ | refine Y_block_normal ?_))
      all_goals first
        | exact Y_again (i + 1, ys.set (0 + (i : Int).toNat * 1) put) fun _ _ hf hs => ⟨⟨by show i + 1 ≤ 280; omega, by rw [List.length_set]; exact hy, fun j h1 => by
            rw [show 0 + (i : Int).toNat * 1 = i from by omega]
            by_cases h2 : j = i
            · subst h2
              rw [if_pos ⟨by omega, by omega⟩, Vm.get_eq (by rw [List.length_set]; omega), List.getElem_set_self]
            · have : Cof.get (ys.set i put) (j : Int) = Cof.get ys (j : Int) := by
                unfold Cof.get
                rw [Int.toNat_natCast, List.getD_eq_getElem?_getD, List.getD_eq_getElem?_getD, List.getElem?_set_ne (by omega)]
              rw [this, hg j h1]
              by_cases h3 : j < i ∧ f ≤ pageN j ∧ pageN j < f + n
              · rw [if_pos h3, if_pos ⟨by omega, h3.2⟩]
              · rw [if_neg h3, if_neg (fun h => h3 ⟨by omega, h.2⟩)]⟩, by show 280 - (i + 1) < 280 - i; omega, hf.sub (by (repeat' (first | exact trivial | refine And.intro rfl ?_)); done), hs⟩
        | (exfalso; omega)
        | skip
      
    · repeat' (first | (refine XL_id ?_; first | refine XL_nil ?_ | refine XL_guard_yes rfl rfl rfl ?_ | refine XL_guard_no rfl rfl rfl rfl rfl ?_ | (refine XG_call ?_; refine XL_fn hpg rfl rfl (fun _ _ _ => trivial) ?_) | (refine XL_op tt_ok rfl rfl ?_; try (first | refine XL_int (wrap_i64 (by omega) (by omega)) ?_ | refine XL_dec_t (by omega) ?_ | refine XL_dec_f (by omega) ?_ | refine XL_dec (fun _ => ?_) (fun _ => ?_)))) | (refine X_id ?_; first | refine X_seq ?_ | (refine X_regionN (by repeat' (first | exact .nil | apply NL.cons)) ?_) | refine X_skip ?_ | refine X_block ?_ | refine X_cond_t rfl ?_ | refine X_cond_f rfl ?_) | (refine Y_id ?_; first | refine Y_then ?_ | refine Y_block_normal ?_))
      all_goals first
        | exact Y_again (i + 1, ys) fun _ _ hf hs => ⟨⟨by show i + 1 ≤ 280; omega, hy, fun j h1 => by
            rw [hg j h1]
            by_cases h2 : j = i
            · subst h2; rw [if_neg (by omega), if_neg (by rw [hP]; omega)]
            · by_cases h3 : j < i ∧ f ≤ pageN j ∧ pageN j < f + n
              · rw [if_pos h3, if_pos ⟨by omega, h3.2⟩]
              · rw [if_neg h3, if_neg (fun h => h3 ⟨by omega, h.2⟩)]⟩, by show 280 - (i + 1) < 280 - i; omega, hf.sub (by (repeat' (first | exact trivial | refine And.intro rfl ?_)); done), hs⟩
        | (exfalso; omega)
        | skip
      
  · obtain rfl : i = 280 := by omega
    have hys : ys = chg xs f n put := eq_280 hy (chg_length ..) fun j hj => by
      rw [hg j hj, chg_get _ _ _ _ hj]
      by_cases h3 : f ≤ pageN j ∧ pageN j < f + n
      · rw [if_pos ⟨hj, h3⟩, if_pos h3]
      · rw [if_neg (fun h => h3 h.2), if_neg h3]
    repeat' (first | (refine XL_id ?_; first | refine XL_nil ?_ | (refine XG_load ?_; refine XL_loadA tt_ok 1 rfl rfl rfl (by omega) rfl rfl rfl rfl ?_) | (refine XG_store ?_; (refine XL_storeA tt_ok 0 rfl rfl rfl rfl (by simp [flat_length, Cof.encI]; omega) rfl (by simpa using flat_one _ _) ?_)) | (refine XL_op tt_ok rfl rfl ?_; try (refine XL_dec_f (by omega) ?_))) | (refine X_id ?_; first | refine X_seq ?_ | (refine X_regionN (by repeat' (first | exact .nil | apply NL.cons)) ?_) | refine X_ret ?_ | refine X_exit ?_ | refine X_cond_f rfl ?_) | (refine Y_id ?_; first | refine Y_then ?_ | refine Y_then_exit ?_ | refine Y_block_hit ?_))
    have hdr : List.take 280 (List.drop 0 ys) = ys := by rw [List.drop_zero, List.take_of_length_le (by omega)]
    rw [hdr]
    have hpv : partV Tt 55 (flat (Cof.encI .u8) ys) 0 = some (.agg (flat (Cof.encI .u8) ys).toArray) := partV_all rfl hy rfl rfl rfl
    exact Y_res1 rfl (.cell tt_ok 0 rfl rfl rfl hpv (by rw [flat_length, hy]; rfl)) (L' := []) (fun _ _ => trivial) ⟨congrArg arV hys, rfl⟩
theorem pages_280 : (280 : Nat) ≤ 280 := Nat.le_refl _
set_option maxHeartbeats 16000000 in
theorem some_spec (l : List Rg) (hl : Vm.Good l) (f n : Int) (hv : Vis f n) :
    FnC Try.prog 61 [arV (seenL l), iV f, iV n] (fun _ => True) (iV (mc l f n.toNat)) := by
  have hv' := hv
  unfold Vis at hv'
  have hmn := mc_rng l f n hv'.1
  refine Ctr.intro Try.func61 rfl rfl (by decide +kernel) fun F hpre => ?_
  repeat' (first | (refine XL_id ?_; first | refine XL_nil ?_ | (refine XG_box ?_; (refine XL_box rfl (fun _ => rfl) (fun b3 => ?_); refine XL_conv 0 (own (Cof.encI .u8) (some ⟨b3, 0, none⟩) 280 280 (seenL l)) rfl (fun h o => own_ar (seenL_length l) o) ?_)) | (refine XL_op tt_ok rfl rfl ?_)) | (refine X_id ?_; first | refine X_block (hold ?_) | refine X_seq ?_ | (refine X_regionN (by repeat' (first | exact .nil | apply NL.cons)) ?_)) | (refine Y_id ?_; refine Y_then ?_))
  intro _
  refine X_loopD2 [1, 2, 3] (fun (i : Nat) (v : Int) => [(8, .int .i64 i), (7, .int .i64 v)]) (fun _ _ => [own (Cof.encI .u8) (some ⟨b3, 0, none⟩) 280 280 (seenL l)]) (fun i v => i ≤ 280 ∧ v = mc l f (ahead f n i).toNat) (fun i _ => 280 - i) 0 0 rfl ⟨Nat.zero_le _, by rw [ahead_0 hv]; rfl⟩ (by (repeat' (first | exact trivial | refine And.intro rfl ?_)); done) (fun _ h => h) ?_
  intro i v hi
  obtain ⟨hi, hg⟩ := hi
  have hrg := ahead_rng hv i
  have hvr := mc_rng l f (ahead f n i) hrg.1
  by_cases hlt : i < 280
  · have hpg := page_spec i hi
    have hpr : 0 ≤ pageN i ∧ pageN i < 524408 := by unfold pageN; split <;> omega
    have hst := ahead_step hv i
    have hsg := seenL_get l hlt
    have slen := seenL_length l
    obtain ⟨P, hP⟩ : ∃ P, pageN i = P := ⟨_, rfl⟩
    rw [hP] at hpg hpr hst hsg
    by_cases hin : f ≤ P ∧ P < f + n
    · obtain ⟨s1, s2⟩ := hst.1 hin
      have hms := mc_step l f (k := P - f) (by omega)
      rw [show f + (P - f) = P from by omega] at hms
      rw [s1] at hg hrg hvr
      by_cases hs0 : atP l P = none
      · have hz0 : Cof.get (seenL l) (i : Int) = 0 := by rw [hsg, hs0]; rfl
        rw [hs0] at hms
        have hms : mc l f (P - f + 1).toNat = mc l f (P - f).toNat + 0 := hms
        repeat' (first | (refine XL_id ?_; first | refine XL_nil ?_ | refine XL_guard_yes rfl rfl rfl ?_ | (refine XG_load ?_; refine XL_elo tt_ok 0 rfl rfl rfl (by omega) (by omega) rfl rfl rfl rfl ?_) | (refine XG_idx ?_; refine XL_idxa tt_ok rfl rfl rfl rfl rfl (by omega) (by omega) rfl ?_) | (refine XG_call ?_; refine XL_fn hpg rfl rfl (fun _ _ _ => trivial) ?_) | (refine XL_op tt_ok rfl rfl ?_; try (first | refine XL_int (wrap_i64 (by omega) (by omega)) ?_ | refine XL_dec_t (by omega) ?_ | refine XL_dec_f (by omega) ?_))) | (refine X_id ?_; first | refine X_seq ?_ | (refine X_regionN (by repeat' (first | exact .nil | apply NL.cons)) ?_) | refine X_skip ?_ | refine X_block ?_ | refine X_cond_t rfl ?_ | refine X_cond_f rfl ?_) | (refine Y_id ?_; first | refine Y_then ?_ | refine Y_block_normal ?_))
        all_goals first
          | exact Y_again (i + 1, v) fun _ _ hf hs => ⟨⟨by show i + 1 ≤ 280; omega, by show v = mc l f (ahead f n (i + 1)).toNat; rw [s2]; omega⟩, by show 280 - (i + 1) < 280 - i; omega, hf.sub (by (repeat' (first | exact trivial | refine And.intro rfl ?_)); done), hs⟩
          | (exfalso; omega)
          | skip
        
      · have hz0 : Cof.get (seenL l) (i : Int) ≠ 0 := fun h => hs0 ((code_none (fun m hm => by have := at_perm hl hm; omega)).1 (hsg.symm.trans h))
        rw [if_pos (by cases hx : atP l P with | none => exact absurd hx hs0 | some _ => rfl)] at hms
        repeat' (first | (refine XL_id ?_; first | refine XL_nil ?_ | refine XL_guard_yes rfl rfl rfl ?_ | (refine XG_load ?_; refine XL_elo tt_ok 0 rfl rfl rfl (by omega) (by omega) rfl rfl rfl rfl ?_) | (refine XG_idx ?_; refine XL_idxa tt_ok rfl rfl rfl rfl rfl (by omega) (by omega) rfl ?_) | (refine XG_call ?_; refine XL_fn hpg rfl rfl (fun _ _ _ => trivial) ?_) | (refine XL_op tt_ok rfl rfl ?_; try (first | refine XL_int (wrap_i64 (by omega) (by omega)) ?_ | refine XL_dec_t (by omega) ?_))) | (refine X_id ?_; first | refine X_seq ?_ | (refine X_regionN (by repeat' (first | exact .nil | apply NL.cons)) ?_) | refine X_skip ?_ | refine X_block ?_ | refine X_cond_t rfl ?_) | (refine Y_id ?_; first | refine Y_then ?_ | refine Y_block_normal ?_))
        all_goals first
          | exact Y_again (i + 1, v + 1) fun _ _ hf hs => ⟨⟨by show i + 1 ≤ 280; omega, by show v + 1 = mc l f (ahead f n (i + 1)).toNat; rw [s2]; omega⟩, by show 280 - (i + 1) < 280 - i; omega, hf.sub (by (repeat' (first | exact trivial | refine And.intro rfl ?_)); done), hs⟩
          | (exfalso; omega)
          | skip
        
    · have s2 := hst.2 hin
      repeat' (first | (refine XL_id ?_; first | refine XL_nil ?_ | refine XL_guard_yes rfl rfl rfl ?_ | refine XL_guard_no rfl rfl rfl rfl rfl ?_ | (refine XG_call ?_; refine XL_fn hpg rfl rfl (fun _ _ _ => trivial) ?_) | (refine XL_op tt_ok rfl rfl ?_; try (first | refine XL_int (wrap_i64 (by omega) (by omega)) ?_ | refine XL_dec_t (by omega) ?_ | refine XL_dec_f (by omega) ?_ | refine XL_dec (fun _ => ?_) (fun _ => ?_)))) | (refine X_id ?_; first | refine X_seq ?_ | (refine X_regionN (by repeat' (first | exact .nil | apply NL.cons)) ?_) | refine X_skip ?_ | refine X_block ?_ | refine X_cond_t rfl ?_ | refine X_cond_f rfl ?_) | (refine Y_id ?_; first | refine Y_then ?_ | refine Y_block_normal ?_))
      all_goals first
        | exact Y_again (i + 1, v) fun _ _ hf hs => ⟨⟨by show i + 1 ≤ 280; omega, by show v = mc l f (ahead f n (i + 1)).toNat; rw [s2]; exact hg⟩, by show 280 - (i + 1) < 280 - i; omega, hf.sub (by (repeat' (first | exact trivial | refine And.intro rfl ?_)); done), hs⟩
        | (exfalso; omega)
        | skip
      
  · obtain rfl : i = 280 := by omega
    rw [ahead_end hv] at hg
    repeat' (first | (refine XL_id ?_; first | refine XL_nil ?_ | (refine XL_op tt_ok rfl rfl ?_; try (refine XL_dec_f (by omega) ?_))) | (refine X_id ?_; first | refine X_seq ?_ | (refine X_regionN (by repeat' (first | exact .nil | apply NL.cons)) ?_) | refine X_ret ?_ | refine X_exit ?_ | refine X_cond_f rfl ?_) | (refine Y_id ?_; first | refine Y_then ?_ | refine Y_then_exit ?_ | refine Y_block_hit ?_))
    all_goals first
      | exact Y_fn1 rfl rfl (by rw [hg])
      | skip
    
theorem acc_at {l : List Rg} {h P o : Int} {w : Bool} (hs : SGood l h) (h1 : 0 ≤ P ∧ P < 1048576) (h2 : 0 ≤ o ∧ o ≤ 255) : accF l h (P * 256 + o) 1 w = accP (atP l P) w := by
  have e : Ad.runF (P * 256 + o) 1 = (P, o, 0) := by
    unfold Ad.runF
    rw [if_pos (by omega), if_pos (by omega), show (P * 256 + o) / 256 = P from by omega, show (P * 256 + o) % 256 = o from by omega]
  unfold accF
  rw [if_neg (by rw [sgood_iff.2 hs]; omega), e, if_neg (by show ¬ (0 : Int) ≠ 0; omega)]
set_option maxHeartbeats 32000000 in
theorem seen_spec (A : Option Addr) (m c : Nat) (l : List Rg) (h : Int) (hs : SGood l h) : FnC Try.prog 28 [.agg #[.slice A m c, iV h]] (fun g => rdS encRg g A m l) (arV (seenL l)) := by
  have hl8 := hs.fine.len
  have hin := rg_in hs.fine
  refine Ctr.intro Try.func28 rfl rfl (by decide +kernel) fun F hpre => ?_
  have r1 : rdS encRg F.heap A m l := hpre
  have hlen := r1.1
  repeat' (first | (refine XL_id ?_; first | refine XL_nil ?_ | (refine XG_box ?_; (refine XL_box rfl (fun _ => rfl) (fun b1 => ?_); refine XL_nB (by repeat' (first | exact .nil | apply NL.cons)) ?_)) | (refine XG_alloc ?_; (refine XL_alloc tt_ok rfl rfl (fun _ => rfl) (fun b => ?_); refine XL_nB (by repeat' (first | exact .nil | apply NL.cons)) ?_)) | (refine XL_op tt_ok rfl rfl ?_)) | (refine X_id ?_; first | refine X_block (id := 0) (hold ?_) | refine X_seq ?_ | (refine X_regionN (by repeat' (first | exact .nil | apply NL.cons)) ?_)) | (refine Y_id ?_; refine Y_then ?_))
  intro _
  rename_i b2 _
  refine X_conv 0 (own (Cof.encI .u8) (some ⟨b, 0, none⟩) 280 280 (List.replicate 280 0)) rfl (fun h o => own_of_blk o rfl rfl (by decide)) ?_
  refine X_loopD2 [1, 2, 3] (fun (i : Nat) (xs : List Int) => [(4, .int .i64 i)]) (fun _ xs => [own (Cof.encI .u8) (some ⟨b, 0, none⟩) 280 280 xs, blk b2 (flat (Cof.encI .u8) (List.replicate 280 0)) 55, _]) (fun i xs => i ≤ 280 ∧ xs.length = 280 ∧ ∀ j : Nat, j < 280 → Cof.get xs (j : Int) = if j < i then code (atP l (pageN j)) else 0) (fun i _ => 280 - i) 0 (List.replicate 280 0) rfl ⟨Nat.zero_le _, by simp, fun j hj => by rw [if_neg (by omega), Vm.get_eq (by rw [List.length_replicate]; exact hj), List.getElem_replicate]⟩ (by (repeat' (first | exact trivial | refine And.intro rfl ?_)); done) (fun _ h => h) ?_
  intro i xs hi
  obtain ⟨hi, hx, hg⟩ := hi
  by_cases hlt : i < 280
  · have hpg := page_spec i hi
    have hpr : 0 ≤ pageN i ∧ pageN i < 524408 := by unfold pageN; split <;> omega
    have hgi := hg i hlt
    rw [if_neg (by omega)] at hgi
    obtain ⟨P, hP⟩ : ∃ P, pageN i = P := ⟨_, rfl⟩
    rw [hP] at hpg hpr
    have a1 := access_spec A m c l h (P * 256) 1 false (by omega) hin (by unfold Ad.u64In; omega) (by unfold Ad.i64In; omega)
    have a2 := access_spec A m c l h (P * 256 + 255) 1 true (by omega) hin (by unfold Ad.u64In; omega) (by unfold Ad.i64In; omega)
    rw [show accF l h (P * 256) 1 false = accP (atP l P) false from by have := acc_at (w := false) hs (P := P) (o := 0) (by omega) (by omega); rwa [Int.add_zero] at this] at a1
    rw [acc_at hs (by omega) (by omega)] at a2
    have step : ∀ (v : Int), v = code (atP l P) → ∀ j : Nat, j < 280 → Cof.get (xs.set i v) (j : Int) = if j < i + 1 then code (atP l (pageN j)) else 0 := fun v hv j h1 => by
      by_cases h2 : j = i
      · subst h2
        rw [if_pos (by omega), hP, ← hv, Vm.get_eq (by rw [List.length_set]; omega), List.getElem_set_self]
      · have : Cof.get (xs.set i v) (j : Int) = Cof.get xs (j : Int) := by
          unfold Cof.get
          rw [Int.toNat_natCast, List.getD_eq_getElem?_getD, List.getD_eq_getElem?_getD, List.getElem?_set_ne (by omega)]
        rw [this, hg j h1]
        by_cases h3 : j < i
        · rw [if_pos h3, if_pos (by omega)]
        · rw [if_neg h3, if_neg (by omega)]
    cases hat : atP l P with
    | none =>
      rw [hat] at a1 a2 step
      have a1 : FnC Try.prog 25 [.agg #[.slice A m c, iV h], uV (P * 256), iV 1, .bool false] (fun g => rdS encRg g A m l) (iV 170) := a1
      have a2 : FnC Try.prog 25 [.agg #[.slice A m c, iV h], uV (P * 256 + 255), iV 1, .bool true] (fun g => rdS encRg g A m l) (iV 170) := a2
      repeat' (first | (refine XL_id ?_; first | refine XL_nil ?_ | refine XL_guard_yes rfl rfl rfl ?_ | refine XL_guard_no rfl rfl rfl rfl rfl ?_ | (refine XG_call ?_; first | refine XL_fn hpg rfl rfl (fun _ _ _ => trivial) ?_ | (refine XL_fn a1 rfl rfl (fun g hg _ => r1.le (Hp.le.trans (by exact hFG) hg)) ?_) | (refine XL_fn a2 rfl rfl (fun g hg _ => r1.le (Hp.le.trans (by exact hFG) hg)) ?_)) | (refine XL_op tt_ok rfl rfl ?_; try (first | refine XL_int (shl8_u64 (by omega) (by omega)) ?_ | refine XL_int (wrap_i64 (by omega) (by omega)) ?_ | refine XL_int (wrap_u64 (by omega) (by omega)) ?_ | refine XL_dec_t (by omega) ?_ | refine XL_dec_f (by omega) ?_))) | (refine XD_id ?_; first | (refine XD_thaw thaw ?_; refine XD_nil ?_) | (refine XD_id ?_; (first | (refine XD_uL rfl ?_; refine XD_s rfl rfl rfl (XV_loadW tt_ok rfl (blk_at 1 rfl hM) rfl rfl rfl) rfl ?_) | (refine XD_u rfl rfl ?_; refine XD_s rfl rfl rfl (XV_op tt_ok rfl) rfl ?_)); try (refine XD_int (wrap_u64 (by omega) (by omega)) ?_)) | refine XD_m rfl rfl ?_) | (refine X_id ?_; first | (refine X_drawS (id := 6) [0, 1, 3, 4, 5, 2, 6, 7, 8] (fun | 2 => .m | 6 => .m | _ => .s) 8 (by repeat' (first | exact Split.nil | apply Split.blk | apply Split.keep)) mixed (by decide +kernel) ?_; intro G hFG hM thaw; show XD _ _ _ _ _ _ [0, 1, 3, 4, 5, 2, 6, 7, 8] _ _ _) | refine X_seq ?_ | (refine X_regionN (by repeat' (first | exact .nil | apply NL.cons)) ?_) | refine X_skip ?_ | refine X_block ?_ | refine X_cond_t rfl ?_ | refine X_cond_f rfl ?_) | (refine Y_id ?_; first | refine Y_then ?_ | refine Y_block_normal ?_ | refine Y_m ?_))
      all_goals first
        | exact Y_again (i + 1, xs) fun _ _ hf hs => ⟨⟨by show i + 1 ≤ 280; omega, hx, fun j h1 => by
            rw [hg j h1]
            by_cases h2 : j = i
            · subst h2; rw [if_neg (by omega), if_pos (by omega), hP, hat]; rfl
            · by_cases h3 : j < i
              · rw [if_pos h3, if_pos (by omega)]
              · rw [if_neg h3, if_neg (by omega)]⟩, by show 280 - (i + 1) < 280 - i; omega, hf.sub (by (repeat' (first | exact trivial | refine And.intro rfl ?_)); done), hs.imp fun h hs => by first | exact hs | exact stars_only [0, 1, 0] rfl h hs | exact stars_only [0, 0, 0] rfl h hs⟩
        | (exfalso; omega)
        | (exfalso; rename_i h9; exact absurd h9 (by decide))
        | skip
      
    | some pm =>
      have hpm := at_perm hs.fine.good hat
      rw [hat] at a1 a2 step
      rcases hpm with rfl | rfl | rfl
      · have a1 : FnC Try.prog 25 [.agg #[.slice A m c, iV h], uV (P * 256), iV 1, .bool false] (fun g => rdS encRg g A m l) (iV 172) := a1
        have a2 : FnC Try.prog 25 [.agg #[.slice A m c, iV h], uV (P * 256 + 255), iV 1, .bool true] (fun g => rdS encRg g A m l) (iV 172) := a2
        have st := step 1 rfl
        repeat' (first | (refine XL_id ?_; first | refine XL_nil ?_ | refine XL_guard_yes rfl rfl rfl ?_ | (refine XG_idx ?_; refine XL_idxal tt_ok rfl rfl rfl rfl rfl (by omega) (by omega) rfl ?_) | (refine XG_call ?_; first | refine XL_fn hpg rfl rfl (fun _ _ _ => trivial) ?_ | (refine XL_fn a1 rfl rfl (fun g hg _ => r1.le (Hp.le.trans (by exact hFG) hg)) ?_) | (refine XL_fn a2 rfl rfl (fun g hg _ => r1.le (Hp.le.trans (by exact hFG) hg)) ?_)) | (refine XG_store ?_; refine XL_put1 tt_ok 0 (1 : Int) rfl rfl rfl rfl rfl rfl rfl (by omega) rfl ?_) | (refine XL_op tt_ok rfl rfl ?_; try (first | refine XL_int (shl8_u64 (by omega) (by omega)) ?_ | refine XL_int (wrap_i64 (by omega) (by omega)) ?_ | refine XL_int (wrap_u64 (by omega) (by omega)) ?_ | refine XL_dec_t (by omega) ?_))) | (refine XD_id ?_; first | (refine XD_thaw thaw ?_; refine XD_nil ?_) | (refine XD_id ?_; (first | (refine XD_uL rfl ?_; refine XD_s rfl rfl rfl (XV_loadW tt_ok rfl (blk_at 1 rfl hM) rfl rfl rfl) rfl ?_) | (refine XD_u rfl rfl ?_; refine XD_s rfl rfl rfl (XV_op tt_ok rfl) rfl ?_)); try (refine XD_int (wrap_u64 (by omega) (by omega)) ?_)) | refine XD_m rfl rfl ?_) | (refine X_id ?_; first | (refine X_drawS (id := 6) [0, 1, 3, 4, 5, 2, 6, 7, 8] (fun | 2 => .m | 6 => .m | _ => .s) 8 (by repeat' (first | exact Split.nil | apply Split.blk | apply Split.keep)) mixed (by decide +kernel) ?_; intro G hFG hM thaw; show XD _ _ _ _ _ _ [0, 1, 3, 4, 5, 2, 6, 7, 8] _ _ _) | refine X_seq ?_ | (refine X_regionN (by repeat' (first | exact .nil | apply NL.cons)) ?_) | refine X_skip ?_ | refine X_block ?_ | refine X_cond_t rfl ?_) | (refine Y_id ?_; first | refine Y_then ?_ | refine Y_block_normal ?_ | refine Y_m ?_))
        all_goals first
          | exact Y_again (i + 1, xs.set i 1) fun _ _ hf hs => ⟨⟨by show i + 1 ≤ 280; omega, by show (xs.set i _).length = 280; rw [List.length_set]; exact hx, st⟩, by show 280 - (i + 1) < 280 - i; omega, hf.sub (by (repeat' (first | exact trivial | refine And.intro rfl ?_)); done), hs.imp fun h hs => by rw [show 0 + (i : Int).toNat * 1 = i from by omega] at hs; first | exact hs | exact stars_only [0, 1, 0] rfl h hs | exact stars_only [0, 0, 0] rfl h hs⟩
          | (exfalso; omega)
          | (exfalso; rename_i h9; exact absurd h9 (by decide))
          | skip
        
      · have a1 : FnC Try.prog 25 [.agg #[.slice A m c, iV h], uV (P * 256), iV 1, .bool false] (fun g => rdS encRg g A m l) (iV 0) := a1
        have a2 : FnC Try.prog 25 [.agg #[.slice A m c, iV h], uV (P * 256 + 255), iV 1, .bool true] (fun g => rdS encRg g A m l) (iV 172) := a2
        have st := step 2 rfl
        repeat' (first | (refine XL_id ?_; first | refine XL_nil ?_ | refine XL_guard_yes rfl rfl rfl ?_ | refine XL_guard_no rfl rfl rfl rfl rfl ?_ | (refine XG_idx ?_; refine XL_idxal tt_ok rfl rfl rfl rfl rfl (by omega) (by omega) rfl ?_) | (refine XG_call ?_; first | refine XL_fn hpg rfl rfl (fun _ _ _ => trivial) ?_ | (refine XL_fn a1 rfl rfl (fun g hg _ => r1.le (Hp.le.trans (by exact hFG) hg)) ?_) | (refine XL_fn a2 rfl rfl (fun g hg _ => r1.le (Hp.le.trans (by exact hFG) hg)) ?_)) | (refine XG_store ?_; refine XL_put1 tt_ok 0 (2 : Int) rfl rfl rfl rfl rfl rfl rfl (by omega) rfl ?_) | (refine XL_op tt_ok rfl rfl ?_; try (first | refine XL_int (shl8_u64 (by omega) (by omega)) ?_ | refine XL_int (wrap_i64 (by omega) (by omega)) ?_ | refine XL_int (wrap_u64 (by omega) (by omega)) ?_ | refine XL_dec_t (by omega) ?_ | refine XL_dec_f (by omega) ?_))) | (refine XD_id ?_; first | (refine XD_thaw thaw ?_; refine XD_nil ?_) | (refine XD_id ?_; (first | (refine XD_uL rfl ?_; refine XD_s rfl rfl rfl (XV_loadW tt_ok rfl (blk_at 1 rfl hM) rfl rfl rfl) rfl ?_) | (refine XD_u rfl rfl ?_; refine XD_s rfl rfl rfl (XV_op tt_ok rfl) rfl ?_)); try (refine XD_int (wrap_u64 (by omega) (by omega)) ?_)) | refine XD_m rfl rfl ?_) | (refine X_id ?_; first | (refine X_drawS (id := 6) [0, 1, 3, 4, 5, 2, 6, 7, 8] (fun | 2 => .m | 6 => .m | _ => .s) 8 (by repeat' (first | exact Split.nil | apply Split.blk | apply Split.keep)) mixed (by decide +kernel) ?_; intro G hFG hM thaw; show XD _ _ _ _ _ _ [0, 1, 3, 4, 5, 2, 6, 7, 8] _ _ _) | refine X_seq ?_ | (refine X_regionN (by repeat' (first | exact .nil | apply NL.cons)) ?_) | refine X_skip ?_ | refine X_block ?_ | refine X_cond_t rfl ?_ | refine X_cond_f rfl ?_) | (refine Y_id ?_; first | refine Y_then ?_ | refine Y_block_normal ?_ | refine Y_m ?_))
        all_goals first
          | exact Y_again (i + 1, xs.set i 2) fun _ _ hf hs => ⟨⟨by show i + 1 ≤ 280; omega, by show (xs.set i _).length = 280; rw [List.length_set]; exact hx, st⟩, by show 280 - (i + 1) < 280 - i; omega, hf.sub (by (repeat' (first | exact trivial | refine And.intro rfl ?_)); done), hs.imp fun h hs => by rw [show 0 + (i : Int).toNat * 1 = i from by omega] at hs; first | exact hs | exact stars_only [0, 1, 0] rfl h hs | exact stars_only [0, 0, 0] rfl h hs⟩
          | (exfalso; omega)
          | (exfalso; rename_i h9; exact absurd h9 (by decide))
          | skip
        
      · have a1 : FnC Try.prog 25 [.agg #[.slice A m c, iV h], uV (P * 256), iV 1, .bool false] (fun g => rdS encRg g A m l) (iV 0) := a1
        have a2 : FnC Try.prog 25 [.agg #[.slice A m c, iV h], uV (P * 256 + 255), iV 1, .bool true] (fun g => rdS encRg g A m l) (iV 0) := a2
        have st := step 4 rfl
        repeat' (first | (refine XL_id ?_; first | refine XL_nil ?_ | refine XL_guard_yes rfl rfl rfl ?_ | refine XL_guard_no rfl rfl rfl rfl rfl ?_ | (refine XG_idx ?_; refine XL_idxal tt_ok rfl rfl rfl rfl rfl (by omega) (by omega) rfl ?_) | (refine XG_call ?_; first | refine XL_fn hpg rfl rfl (fun _ _ _ => trivial) ?_ | (refine XL_fn a1 rfl rfl (fun g hg _ => r1.le (Hp.le.trans (by exact hFG) hg)) ?_) | (refine XL_fn a2 rfl rfl (fun g hg _ => r1.le (Hp.le.trans (by exact hFG) hg)) ?_)) | (refine XG_store ?_; refine XL_put1 tt_ok 0 (4 : Int) rfl rfl rfl rfl rfl rfl rfl (by omega) rfl ?_) | (refine XL_op tt_ok rfl rfl ?_; try (first | refine XL_int (shl8_u64 (by omega) (by omega)) ?_ | refine XL_int (wrap_i64 (by omega) (by omega)) ?_ | refine XL_int (wrap_u64 (by omega) (by omega)) ?_ | refine XL_dec_t (by omega) ?_ | refine XL_dec_f (by omega) ?_))) | (refine XD_id ?_; first | (refine XD_thaw thaw ?_; refine XD_nil ?_) | (refine XD_id ?_; (first | (refine XD_uL rfl ?_; refine XD_s rfl rfl rfl (XV_loadW tt_ok rfl (blk_at 1 rfl hM) rfl rfl rfl) rfl ?_) | (refine XD_u rfl rfl ?_; refine XD_s rfl rfl rfl (XV_op tt_ok rfl) rfl ?_)); try (refine XD_int (wrap_u64 (by omega) (by omega)) ?_)) | refine XD_m rfl rfl ?_) | (refine X_id ?_; first | (refine X_drawS (id := 6) [0, 1, 3, 4, 5, 2, 6, 7, 8] (fun | 2 => .m | 6 => .m | _ => .s) 8 (by repeat' (first | exact Split.nil | apply Split.blk | apply Split.keep)) mixed (by decide +kernel) ?_; intro G hFG hM thaw; show XD _ _ _ _ _ _ [0, 1, 3, 4, 5, 2, 6, 7, 8] _ _ _) | refine X_seq ?_ | (refine X_regionN (by repeat' (first | exact .nil | apply NL.cons)) ?_) | refine X_skip ?_ | refine X_block ?_ | refine X_cond_t rfl ?_ | refine X_cond_f rfl ?_) | (refine Y_id ?_; first | refine Y_then ?_ | refine Y_block_normal ?_ | refine Y_m ?_))
        all_goals first
          | exact Y_again (i + 1, xs.set i 4) fun _ _ hf hs => ⟨⟨by show i + 1 ≤ 280; omega, by show (xs.set i _).length = 280; rw [List.length_set]; exact hx, st⟩, by show 280 - (i + 1) < 280 - i; omega, hf.sub (by (repeat' (first | exact trivial | refine And.intro rfl ?_)); done), hs.imp fun h hs => by rw [show 0 + (i : Int).toNat * 1 = i from by omega] at hs; first | exact hs | exact stars_only [0, 1, 0] rfl h hs | exact stars_only [0, 0, 0] rfl h hs⟩
          | (exfalso; omega)
          | (exfalso; rename_i h9; exact absurd h9 (by decide))
          | skip
        
  · obtain rfl : i = 280 := by omega
    have hxs : xs = seenL l := eq_280 hx (seenL_length l) fun j h1 => by rw [hg j h1, if_pos h1, seenL_get l h1]
    repeat' (first | (refine XL_id ?_; first | refine XL_nil ?_ | (refine XG_load ?_; refine XL_loadA tt_ok 0 rfl rfl rfl (by omega) rfl rfl rfl rfl ?_) | (refine XG_store ?_; (refine XL_storeA tt_ok 1 rfl rfl rfl rfl (by simp [flat_length, Cof.encI]; omega) rfl (by simpa using flat_one _ _) ?_)) | (refine XL_op tt_ok rfl rfl ?_; try (refine XL_dec_f (by omega) ?_))) | (refine X_id ?_; first | refine X_seq ?_ | (refine X_regionN (by repeat' (first | exact .nil | apply NL.cons)) ?_) | refine X_ret ?_ | refine X_exit ?_ | refine X_cond_f rfl ?_) | (refine Y_id ?_; first | refine Y_then ?_ | refine Y_then_exit ?_ | refine Y_block_hit ?_))
    have hdr : List.take 280 (List.drop 0 xs) = xs := by rw [List.drop_zero, List.take_of_length_le (by omega)]
    rw [hdr]
    have hpv : partV Tt 55 (flat (Cof.encI .u8) xs) 0 = some (.agg (flat (Cof.encI .u8) xs).toArray) := partV_all rfl hx rfl rfl rfl
    exact Y_res1 rfl (.cell tt_ok 1 rfl rfl rfl hpv (by rw [flat_length, hx]; rfl)) (L' := []) (fun _ _ => trivial) ⟨congrArg arV hxs, rfl⟩
end Go.Proofs.Ytalkcemelegohaa
