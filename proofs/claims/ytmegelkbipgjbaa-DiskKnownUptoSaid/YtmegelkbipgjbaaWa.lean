/- Write, Read, Erase, Used, walked. -/
import Derived.Test.YtmegelkbipgjbaaDefs
set_option linter.unusedVariables false
namespace Go.Proofs.Ytmegelkbipgjbaa
open Go.RowKit Go.Cof

theorem flatU_len (xs : List Int) : (flat encU xs).length = xs.length := by rw [flat_length]; show xs.length * 1 = _; omega
theorem flatU_one (xs : List Int) : ∀ u ∈ flat encU xs, u.oneCell' = true := flat_one encU xs
set_option maxHeartbeats 4000000 in
theorem write_ok (p n : Nat) (s : List (List Int)) (k : Int) (b c : Nat) (xs : List Int) (h0 : 0 ≤ k) (h1 : k < n) (hx : xs.length = 256) : Ctr Try.prog 9 [ptr p, iV k, .slice (some ⟨b, 0, none⟩) 256 c] (fun h => rdS encU h (some ⟨b, 0, none⟩) 256 xs) [isDk p n s] (fun v L => v = iV 0 ∧ L = [isDk p n (s.set k.toNat xs)]) := by
  refine Ctr.intro Try.func9 rfl rfl (by decide +kernel) fun F hpre => ?_
  have r1 : rdS encU F.heap (some ⟨b, 0, none⟩) 256 xs := hpre
  refine X_openp 0 rfl (fun _ hh => hh) fun mb hok => ?_
  have hs0 : slotE n k = 0 := if_pos ⟨h0, h1⟩
  have hl := hok.len
  have hc := hok.cap
  have hsl := slot_spec p n mb k
  rw [hs0] at hsl
  have hne : xs ≠ [] := fun e => by rw [e] at hx; cases hx
  repeat' (first | (refine XL_id ?_; first | refine XL_nil ?_ | refine XL_mpPut tt_ok 0 k xs rfl rfl rfl rfl rfl rfl (KI_ok (by omega) (by omega)) ?_ | (refine XG_call ?_; first | (refine XL_op tt_ok rfl rfl ?_) | refine XL_fn hsl rfl rfl (fun g hg hL => blk_at 0 rfl hL) ?_) | (refine XL_op tt_ok rfl rfl ?_; try (refine XL_dec_f (by omega) ?_))) | (refine XD_id ?_; first | (refine XD_thaw thaw ?_; refine XD_nil ?_) | (refine XD_id ?_; (first | (refine XD_uL rfl ?_; first | refine XD_s rfl rfl rfl (XV_load tt_ok rfl (blk_at 0 rfl hM) rfl rfl rfl) rfl ?_ | refine XD_s rfl rfl rfl (XV_loadA tt_ok rfl (r1.le hFG) rfl rfl rfl rfl rfl) rfl ?_) | (refine XD_u rfl rfl ?_; first | refine XD_s rfl rfl rfl (XV_op tt_ok rfl) rfl ?_ | refine XD_s rfl rfl rfl (XV_arr tt_ok rfl rfl rfl (by decide)) rfl ?_))) | refine XD_m rfl rfl ?_) | (refine X_id ?_; first | (refine X_drawS (id := 6) [0, 1, 2, 3, 4, 5, 6, 7, 8] (fun | 8 => .m | _ => .s) 8 (by (repeat apply Split.blk); apply Split.keep; repeat' (exact Split.nil)) mixed (by decide +kernel) ?_; intro G hFG hM thaw; show XD _ _ _ _ _ _ [0, 1, 2, 3, 4, 5, 6, 7, 8] _ _ _) | refine X_seq ?_ | (refine X_regionN (by repeat' (first | exact .nil | apply NL.cons)) ?_) | refine X_skip ?_ | refine X_ret ?_ | refine X_cond_f rfl ?_) | (refine Y_id ?_; first | refine Y_then ?_ | refine Y_m ?_))
  all_goals first
    | exact Y_ret1 rfl rfl (stars_fin [0, 0] rfl (isDk_mk (fOf_set h0 (by omega) hne) (hok.set h0 h1 (.inr hx)))) ⟨rfl, rfl⟩
    | exact Y_ret1 rfl rfl (stars_fin [1, 0] rfl (isDk_mk (fOf_set h0 (by omega) hne) (hok.set h0 h1 (.inr hx)))) ⟨rfl, rfl⟩
    | (exfalso; omega)
    | skip
  
theorem write_no (p n : Nat) (s : List (List Int)) (k : Int) (A : Option Addr) (m c : Nat) (hno : ¬ (0 ≤ k ∧ k < n ∧ m = 256)) : Ctr Try.prog 9 [ptr p, iV k, .slice A m c] (fun _ => True) [isDk p n s] (fun v L => v = iV 2 ∧ L = [isDk p n s]) := by
  refine Ctr.intro Try.func9 rfl rfl (by decide +kernel) fun F hpre => ?_
  refine X_openp 0 rfl (fun _ hh => hh) fun mb hok => ?_
  have hsl := slot_spec p n mb k
  by_cases h : 0 ≤ k ∧ k < n
  · rw [show slotE n k = 0 from if_pos h] at hsl
    obtain ⟨h0, h1⟩ := h
    repeat' (first | (refine XL_id ?_; first | refine XL_nil ?_ | (refine XG_call ?_; first | (refine XL_op tt_ok rfl rfl ?_) | refine XL_fn hsl rfl rfl (fun g hg hL => blk_at 0 rfl hL) ?_) | (refine XL_op tt_ok rfl rfl ?_; try (first | refine XL_dec_t (by omega) ?_ | refine XL_dec_f (by omega) ?_))) | (refine X_id ?_; first | refine X_seq ?_ | (refine X_regionN (by repeat' (first | exact .nil | apply NL.cons)) ?_) | refine X_skip ?_ | refine X_ret ?_ | refine X_cond_t rfl ?_ | refine X_cond_f rfl ?_) | (refine Y_id ?_; first | refine Y_then ?_ | refine Y_then_ret ?_))
    all_goals first
      | exact Y_ret1 rfl rfl (stars_fin [0, 0] rfl (isDk_mk rfl hok)) ⟨rfl, rfl⟩
      | (exfalso; omega)
      | skip
    
  · rw [show slotE n k = 2 from if_neg h] at hsl
    repeat' (first | (refine XL_id ?_; first | refine XL_nil ?_ | (refine XG_call ?_; refine XL_fn hsl rfl rfl (fun g hg hL => blk_at 0 rfl hL) ?_) | (refine XL_op tt_ok rfl rfl ?_; try (refine XL_dec_t (by omega) ?_))) | (refine X_id ?_; first | refine X_seq ?_ | (refine X_regionN (by repeat' (first | exact .nil | apply NL.cons)) ?_) | refine X_ret ?_ | refine X_cond_t rfl ?_) | (refine Y_id ?_; first | refine Y_then ?_ | refine Y_then_ret ?_))
    all_goals first
      | exact Y_ret1 rfl rfl (stars_fin [0, 0] rfl (isDk_mk rfl hok)) ⟨rfl, rfl⟩
      | (exfalso; omega)
      | skip
    
theorem write_spec (p n : Nat) (s : List (List Int)) (k : Int) (A : Option Addr) (m c : Nat) (xs : List Int) (hA : m = 256 → ∃ b, A = some ⟨b, 0, none⟩) : Ctr Try.prog 9 [ptr p, iV k, .slice A m c] (fun h => rdS encU h A m xs) [isDk p n s] (fun v L => v = iV (wrE n k xs) ∧ L = [isDk p n (wrS n k xs s)]) := by
  refine ⟨(write_no p 0 [] 0 none 0 0 (by omega)).1.elim fun fn h => ⟨fn, h⟩, fun F w hp hs => ?_⟩
  have hm := hp.1
  by_cases h : 0 ≤ k ∧ k < n ∧ m = 256
  · obtain ⟨h0, h1, rfl⟩ := h
    obtain ⟨b, rfl⟩ := hA rfl
    have hh : 0 ≤ k ∧ k < (n : Int) ∧ xs.length = 256 := ⟨h0, h1, hm.symm⟩
    rw [show wrE n k xs = 0 from if_pos hh, show wrS n k xs s = s.set k.toNat xs from if_pos hh]
    exact (write_ok p n s k b c xs h0 h1 hm.symm).2 F w hp hs
  · have hh : ¬ (0 ≤ k ∧ k < (n : Int) ∧ xs.length = 256) := fun g => h ⟨g.1, g.2.1, by omega⟩
    rw [show wrE n k xs = 2 from if_neg hh, show wrS n k xs s = s from if_neg hh]
    exact (write_no p n s k A m c h).2 F w trivial hs
set_option maxHeartbeats 4000000 in
theorem read_ok (p n : Nat) (s : List (List Int)) (k : Int) (hr : rdE n k s = 0) : Ctr Try.prog 11 [ptr p, iV k] (fun _ => True) [isDk p n s] (fun v L => ∃ b, v = .tuple #[.slice (some ⟨b, 0, none⟩) 256 256, iV 0] ∧ L = [own encU (some ⟨b, 0, none⟩) 256 256 (Cof.get s k), isDk p n s]) := by
  obtain ⟨h0, h1, hne⟩ := rdE_in hr
  refine Ctr.intro Try.func11 rfl rfl (by decide +kernel) fun F hpre => ?_
  refine X_openp 0 rfl (fun _ hh => hh) fun mb hok => ?_
  have hs0 : slotE n k = 0 := if_pos ⟨h0, h1⟩
  have hl := hok.len
  have hc := hok.cap
  have hpg := hok.page h0 h1 hne
  have hf : fOf s k = some (Cof.get s k) := fOf_some h0 hne
  have hsl := slot_spec p n mb k
  rw [hs0] at hsl
  repeat' (first | (refine XL_id ?_; first | refine XL_nil ?_ | (refine XL_mpLook tt_ok 1 k rfl rfl rfl rfl rfl rfl rfl (KI_ok (by omega) (by omega)) (show _ = Value.tuple #[.agg (flat encU (Cof.get s k)).toArray, .bool true] by rw [hf]; rfl) rfl ?_) | (refine XG_alloc ?_; refine XL_alloc tt_ok rfl rfl (fun _ => rfl) (fun bq => ?_)) | (refine XG_load ?_; refine XL_load tt_ok 0 rfl rfl rfl rfl rfl rfl ?_) | (refine XG_store ?_; (refine XL_storeA tt_ok 0 rfl rfl rfl rfl (by rw [flatU_len, hpg]) (by show (List.replicate 256 (Value.int .u8 0)).length = 256; exact List.length_replicate) (flatU_one _) ?_)) | (refine XG_slice ?_; refine XL_slicea tt_ok rfl rfl rfl rfl rfl ?_) | (refine XG_call ?_; refine XL_fn hsl rfl rfl (fun g hg hL => blk_at 0 rfl hL) ?_) | (refine XL_op tt_ok rfl rfl ?_; try (refine XL_dec_f (by omega) ?_))) | (refine X_id ?_; first | refine X_seq ?_ | (refine X_regionN (by repeat' (first | exact .nil | apply NL.cons)) ?_) | refine X_skip ?_ | refine X_ret ?_ | refine X_cond_f rfl ?_) | (refine Y_id ?_; refine Y_then ?_))
  all_goals first
    | exact Y_ret2 rfl rfl rfl (fun g hg => by
        have q1 := stars_conv (k := 0) (B := own encU (some ⟨bq, 0, none⟩) 256 256 (Cof.get s k)) rfl (fun h o => own_of_blk o hpg.symm rfl (by decide)) hg
        exact stars_take [1, 0] rfl (stars_shut (isDk_mk rfl hok) (stars_take [1, 1] rfl q1))) ⟨_, rfl, rfl⟩
    | (exfalso; omega)
    | skip
  
theorem read_no (p n : Nat) (s : List (List Int)) (k : Int) (hr : rdE n k s ≠ 0) : Ctr Try.prog 11 [ptr p, iV k] (fun _ => True) [isDk p n s] (fun v L => v = .tuple #[.slice none 0 0, iV (rdE n k s)] ∧ L = [isDk p n s]) := by
  refine Ctr.intro Try.func11 rfl rfl (by decide +kernel) fun F hpre => ?_
  refine X_openp 0 rfl (fun _ hh => hh) fun mb hok => ?_
  have hl := hok.len
  have hc := hok.cap
  have hsl := slot_spec p n mb k
  by_cases h : 0 ≤ k ∧ k < n
  · have he : Cof.get s k = [] := by
      refine Classical.byContradiction fun hne => hr ?_
      unfold rdE; rw [if_pos h, if_neg hne]
    rw [show rdE n k s = 60 by unfold rdE; rw [if_pos h, if_pos he]]
    rw [show slotE n k = 0 from if_pos h] at hsl
    obtain ⟨h0, h1⟩ := h
    have hf : fOf s k = none := fOf_none he
    repeat' (first | (refine XL_id ?_; first | refine XL_nil ?_ | (refine XL_mpLook tt_ok 1 k rfl rfl rfl rfl rfl rfl rfl (KI_ok (by omega) (by omega)) (show _ = Value.tuple #[.agg (List.replicate 256 (.int .u8 0)).toArray, .bool false] by rw [hf]; rfl) rfl ?_) | (refine XG_alloc ?_; refine XL_alloc tt_ok rfl rfl (fun _ => rfl) (fun bq => ?_)) | (refine XG_load ?_; refine XL_load tt_ok 0 rfl rfl rfl rfl rfl rfl ?_) | (refine XG_store ?_; (refine XL_storeA tt_ok 0 rfl rfl rfl rfl (by exact List.length_replicate) (by show (List.replicate 256 (Value.int .u8 0)).length = 256; exact List.length_replicate) (fun u hu => by rw [(List.mem_replicate.1 hu).2]; rfl) ?_)) | (refine XG_call ?_; refine XL_fn hsl rfl rfl (fun g hg hL => blk_at 0 rfl hL) ?_) | (refine XL_op tt_ok rfl rfl ?_; try (refine XL_dec_f (by omega) ?_))) | (refine X_id ?_; first | refine X_seq ?_ | (refine X_regionN (by repeat' (first | exact .nil | apply NL.cons)) ?_) | refine X_skip ?_ | refine X_ret ?_ | refine X_cond_t rfl ?_ | refine X_cond_f rfl ?_) | (refine Y_id ?_; first | refine Y_then ?_ | refine Y_then_ret ?_))
    all_goals first
      | exact Y_ret2 rfl rfl rfl (stars_fin [1, 1] rfl (isDk_mk rfl hok)) ⟨rfl, rfl⟩
      | (exfalso; omega)
      | skip
    
  · rw [show rdE n k s = 2 from if_neg h]
    rw [show slotE n k = 2 from if_neg h] at hsl
    repeat' (first | (refine XL_id ?_; first | refine XL_nil ?_ | (refine XG_call ?_; refine XL_fn hsl rfl rfl (fun g hg hL => blk_at 0 rfl hL) ?_) | (refine XL_op tt_ok rfl rfl ?_; try (refine XL_dec_t (by omega) ?_))) | (refine X_id ?_; first | refine X_seq ?_ | (refine X_regionN (by repeat' (first | exact .nil | apply NL.cons)) ?_) | refine X_ret ?_ | refine X_cond_t rfl ?_) | (refine Y_id ?_; first | refine Y_then ?_ | refine Y_then_ret ?_))
    all_goals first
      | exact Y_ret2 rfl rfl rfl (stars_fin [0, 0] rfl (isDk_mk rfl hok)) ⟨rfl, rfl⟩
      | (exfalso; omega)
      | skip
    
set_option maxHeartbeats 4000000 in
theorem erase_spec (p n : Nat) (s : List (List Int)) (k : Int) : Ctr Try.prog 12 [ptr p, iV k] (fun _ => True) [isDk p n s] (fun v L => v = iV (rdE n k s) ∧ L = [isDk p n (erS n k s)]) := by
  refine Ctr.intro Try.func12 rfl rfl (by decide +kernel) fun F hpre => ?_
  refine X_openp 0 rfl (fun _ hh => hh) fun mb hok => ?_
  have hl := hok.len
  have hc := hok.cap
  have hsl := slot_spec p n mb k
  by_cases h : 0 ≤ k ∧ k < n
  · rw [show slotE n k = 0 from if_pos h] at hsl
    by_cases he : Cof.get s k = []
    · have hr : rdE n k s = 60 := by unfold rdE; rw [if_pos h, if_pos he]
      rw [show erS n k s = s from if_neg (by rw [hr]; decide), hr]
      obtain ⟨h0, h1⟩ := h
      have hf : fOf s k = none := fOf_none he
      repeat' (first | (refine XL_id ?_; first | refine XL_nil ?_ | (refine XL_mpLook tt_ok 1 k rfl rfl rfl rfl rfl rfl rfl (KI_ok (by omega) (by omega)) (show _ = Value.tuple #[.agg (List.replicate 256 (.int .u8 0)).toArray, .bool false] by rw [hf]; rfl) rfl ?_) | (refine XG_alloc ?_; refine XL_alloc tt_ok rfl rfl (fun _ => rfl) (fun bq => ?_)) | (refine XG_load ?_; refine XL_load tt_ok 0 rfl rfl rfl rfl rfl rfl ?_) | (refine XG_store ?_; (refine XL_storeA tt_ok 0 rfl rfl rfl rfl (by exact List.length_replicate) (by show (List.replicate 256 (Value.int .u8 0)).length = 256; exact List.length_replicate) (fun u hu => by rw [(List.mem_replicate.1 hu).2]; rfl) ?_)) | (refine XG_call ?_; refine XL_fn hsl rfl rfl (fun g hg hL => blk_at 0 rfl hL) ?_) | (refine XL_op tt_ok rfl rfl ?_; try (refine XL_dec_f (by omega) ?_))) | (refine X_id ?_; first | refine X_seq ?_ | (refine X_regionN (by repeat' (first | exact .nil | apply NL.cons)) ?_) | refine X_skip ?_ | refine X_ret ?_ | refine X_cond_t rfl ?_ | refine X_cond_f rfl ?_) | (refine Y_id ?_; first | refine Y_then ?_ | refine Y_then_ret ?_))
      all_goals first
        | exact Y_ret1 rfl rfl (stars_fin [1, 1] rfl (isDk_mk rfl hok)) ⟨rfl, rfl⟩
        | (exfalso; omega)
        | skip
      
    · have hr : rdE n k s = 0 := by unfold rdE; rw [if_pos h, if_neg he]
      rw [show erS n k s = s.set k.toNat [] from if_pos hr, hr]
      obtain ⟨h0, h1⟩ := h
      have hf : fOf s k = some (Cof.get s k) := fOf_some h0 he
      have hpg := hok.page h0 h1 he
      repeat' (first | (refine XL_id ?_; first | refine XL_nil ?_ | (refine XL_mpLook tt_ok 1 k rfl rfl rfl rfl rfl rfl rfl (KI_ok (by omega) (by omega)) (show _ = Value.tuple #[.agg (flat encU (Cof.get s k)).toArray, .bool true] by rw [hf]; rfl) rfl ?_) | refine XL_mpDel tt_ok 2 k rfl rfl rfl rfl rfl (KI_ok (by omega) (by omega)) ?_ | (refine XG_alloc ?_; refine XL_alloc tt_ok rfl rfl (fun _ => rfl) (fun bq => ?_)) | (refine XG_load ?_; first | refine XL_load tt_ok 0 rfl rfl rfl rfl rfl rfl ?_ | refine XL_load tt_ok 1 rfl rfl rfl rfl rfl rfl ?_) | (refine XG_store ?_; (refine XL_storeA tt_ok 0 rfl rfl rfl rfl (by rw [flatU_len, hpg]) (by show (List.replicate 256 (Value.int .u8 0)).length = 256; exact List.length_replicate) (flatU_one _) ?_)) | (refine XG_call ?_; refine XL_fn hsl rfl rfl (fun g hg hL => blk_at 0 rfl hL) ?_) | (refine XL_op tt_ok rfl rfl ?_; try (refine XL_dec_f (by omega) ?_))) | (refine X_id ?_; first | refine X_seq ?_ | (refine X_regionN (by repeat' (first | exact .nil | apply NL.cons)) ?_) | refine X_skip ?_ | refine X_ret ?_ | refine X_cond_f rfl ?_) | (refine Y_id ?_; refine Y_then ?_))
      all_goals first
        | exact Y_ret1 rfl rfl (stars_fin [1, 1] rfl (isDk_mk (fOf_del h0 (by omega)) (hok.set h0 h1 (.inl rfl)))) ⟨rfl, rfl⟩
        | (exfalso; omega)
        | skip
      
  · have hr : rdE n k s = 2 := if_neg h
    rw [show slotE n k = 2 from if_neg h] at hsl
    rw [show erS n k s = s from if_neg (by rw [hr]; decide), hr]
    repeat' (first | (refine XL_id ?_; first | refine XL_nil ?_ | (refine XG_call ?_; refine XL_fn hsl rfl rfl (fun g hg hL => blk_at 0 rfl hL) ?_) | (refine XL_op tt_ok rfl rfl ?_; try (refine XL_dec_t (by omega) ?_))) | (refine X_id ?_; first | refine X_seq ?_ | (refine X_regionN (by repeat' (first | exact .nil | apply NL.cons)) ?_) | refine X_ret ?_ | refine X_cond_t rfl ?_) | (refine Y_id ?_; first | refine Y_then ?_ | refine Y_then_ret ?_))
    all_goals first
      | exact Y_ret1 rfl rfl (stars_fin [0, 0] rfl (isDk_mk rfl hok)) ⟨rfl, rfl⟩
      | (exfalso; omega)
      | skip
    
/-! which are used -/
def usedTo (s : List (List Int)) : Nat → List Int
  | 0 => []
  | i + 1 => if Cof.get s (i : Int) = [] then usedTo s i else usedTo s i ++ [(i : Int)]
theorem usedTo_mem (s : List (List Int)) : ∀ (i : Nat) (k : Int), k ∈ usedTo s i ↔ 0 ≤ k ∧ k < i ∧ Cof.get s k ≠ []
  | 0, k => ⟨fun h => (by cases h), fun h => (by omega)⟩
  | i + 1, k => by
    have ih := usedTo_mem s i k
    rw [usedTo]
    by_cases he : Cof.get s (i : Int) = []
    · rw [if_pos he, ih]
      refine ⟨fun h => ⟨h.1, by omega, h.2.2⟩, fun h => ⟨h.1, ?_, h.2.2⟩⟩
      have : k ≠ (i : Int) := fun e => h.2.2 (e ▸ he)
      omega
    · rw [if_neg he, List.mem_append, ih, List.mem_singleton]
      constructor
      · rintro (h | rfl)
        · exact ⟨h.1, by omega, h.2.2⟩
        · exact ⟨by omega, by omega, he⟩
      · intro h
        by_cases e : k = (i : Int)
        · exact .inr e
        · exact .inl ⟨h.1, by omega, h.2.2⟩
theorem usedTo_asc (s : List (List Int)) : ∀ i : Nat, (usedTo s i).Pairwise (· < ·)
  | 0 => List.Pairwise.nil
  | i + 1 => by
    rw [usedTo]
    split
    · exact usedTo_asc s i
    · refine List.pairwise_append.2 ⟨usedTo_asc s i, List.pairwise_singleton .., fun a ha b hb => ?_⟩
      rw [List.mem_singleton.1 hb]
      exact ((usedTo_mem s i a).1 ha).2.1
theorem usedTo_len (s : List (List Int)) : ∀ i : Nat, (usedTo s i).length ≤ i
  | 0 => Nat.le_refl _
  | i + 1 => by
    have := usedTo_len s i
    rw [usedTo]
    split
    · omega
    · rw [List.length_append, List.length_singleton]; omega
abbrev usedF (s : List (List Int)) : List Int := usedTo s s.length
theorem usedF_mem (s : List (List Int)) (k : Int) : k ∈ usedF s ↔ (fOf s k).isSome = true := by
  rw [usedTo_mem]
  unfold fOf
  constructor
  · intro h; rw [if_pos ⟨h.1, h.2.2⟩]; rfl
  · intro h
    split at h
    · rename_i g
      refine ⟨g.1, ?_, g.2⟩
      refine Classical.byContradiction fun hl => g.2 ?_
      unfold Cof.get
      rw [List.getD_eq_getElem?_getD, List.getElem?_eq_none (by omega)]; rfl
    · cases h
theorem used_spec (p n : Nat) (s : List (List Int)) : Ctr Try.prog 18 [ptr p] (fun _ => True) [isDk p n s] (fun v L => ∃ A c, v = .slice A (usedF s).length c ∧ (A = none ↔ usedF s = []) ∧ L = [own encN A (usedF s).length c (usedF s), isDk p n s]) := by
  refine Ctr.intro Try.func18 rfl rfl (by decide +kernel) fun F hpre => ?_
  refine X_openp 0 rfl (fun _ hh => hh) fun mb hok => ?_
  have hl := hok.len
  have hc := hok.cap
  have hul := usedTo_len s s.length
  repeat' (first | (refine XL_id ?_; first | refine XL_nil ?_ | (refine XG_load ?_; refine XL_load tt_ok 0 rfl rfl rfl rfl rfl rfl ?_) | (refine XG_call ?_; first | (refine XL_callK [] (keys_spec (some mb)) rfl rfl (fun _ => rfl) (fun _ _ _ => trivial) (fun u L hv => ?_); obtain ⟨B, rfl, rfl⟩ := hv) | (refine XL_callK [] (sorted_spec (K := KI) (eV := pgV) B mb (fOf s) (usedF s) (fun _ => rfl) (fun _ h => h) (usedTo_asc s _) (usedF_mem s) (by show (usedTo s s.length).length ≤ _; omega)) rfl rfl (fun _ => rfl) (fun g hg hL => ⟨blk_at 0 rfl hL, isMp_at 2 rfl hL⟩) (fun u L hv => ?_); obtain ⟨A2, c2, rfl, hA2, rfl⟩ := hv)) | (refine XL_op tt_ok rfl rfl ?_)) | (refine X_id ?_; first | refine X_seq ?_ | (refine X_regionN (by repeat' (first | exact .nil | apply NL.cons)) ?_) | refine X_skip ?_ | refine X_ret ?_ | refine X_cond_f rfl ?_) | (refine Y_id ?_; refine Y_then ?_))
  all_goals first
    | exact Y_ret1 rfl rfl (fun g hg => stars_take [1, 0] rfl (stars_shut (isDk_mk rfl hok) (stars_only [2, 2, 0] rfl g hg))) ⟨_, _, rfl, hA2, rfl⟩
    | (exfalso; omega)
    | skip
  
end Go.Proofs.Ytmegelkbipgjbaa
