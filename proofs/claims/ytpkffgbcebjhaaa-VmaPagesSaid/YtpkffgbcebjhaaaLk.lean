/- Walks of VmaPages' helpers: within, form, seen. -/
import Derived.Test.YtpkffgbcebjhaaaLa
import Derived.Test.YtpkffgbcebjhaaaLe
import Derived.Test.YtpkffgbcebjhaaaLn
import Derived.Test.YtpkffgbcebjhaaaPc
import Derived.Test.YtpkffgbcebjhaaaSlS
set_option linter.unusedVariables false
namespace Go.Proofs.Ytpkffgbcebjhaaa
open Go.RowKit Go.Cof

set_option maxHeartbeats 4000000 in
theorem within_rel (i n : Int) (hi : -9223372036854775808 ≤ i ∧ i ≤ 9223372036854775807) (hn : 1 ≤ n ∧ n ≤ 1048576) : Ctr Try.prog 28 [.int .i64 i, .int .i64 n] (fun _ => True) [] (fun v L => ∃ z, 0 ≤ z ∧ z < n ∧ v = .int .i64 z ∧ L = []) := by
  refine Ctr.intro Try.func28 rfl rfl (by decide +kernel) fun F hpre => ?_
  repeat' (first | (refine XL_id ?_; first | refine XL_nil ?_ | (refine XL_op tt_ok (opV_rem rfl rfl (by omega)) rfl ?_; refine XL_remb (by omega) (fun _ _ _ _ => ?_)) | (refine XL_op tt_ok rfl rfl ?_; try (refine XL_int (wrap_i64 (by omega) (by omega)) ?_))) | (refine X_id ?_; first | refine X_seq ?_ | refine X_region ?_ | refine X_ret ?_) | (refine Y_id ?_; refine Y_then ?_))
  exact Y_ret1 rfl rfl (L' := []) (fun _ _ => trivial) ⟨_, by omega, by omega, rfl, rfl⟩
/-- All its pages are among the first 60. -/
structure Low (l : List Rg) : Prop where
  good : Good l
  top : ∀ r ∈ l, r.end ≤ 60
theorem low_length : ∀ {l : List Rg} {k : Nat}, Low l → (∀ r ∈ l, (k : Int) ≤ r.p) → k ≤ 60 → l.length ≤ 60 - k
  | [], _, _, _, _ => by simp
  | r :: l, k, h, hk, hk6 => by
    obtain ⟨hr, hl, hf⟩ := h.good.cons
    have q := hr.lt
    have h1 := hk r (by simp)
    have h2 := h.top r (by simp)
    have := low_length (l := l) (k := k + 1) ⟨hl, fun x hx => h.top x (by simp [hx])⟩ (fun x hx => by have := (hf x hx).le; omega) (by omega)
    simp only [List.length_cons]
    omega
theorem Low.fine {l : List Rg} (h : Low l) : Fine l := ⟨h.good, by
  have := low_length (k := 0) h (fun r hr => by have := (h.good.ok r hr).p; omega) (by omega)
  omega⟩
theorem Low.of_at {l : List Rg} (h : Good l) (ha : ∀ p, 60 ≤ p → atP l p = none) : Low l := ⟨h, fun r hr => by
  have q := (h.ok r hr).lt
  rcases Int.lt_or_le 60 r.end with h1 | h1
  · exfalso
    have h2 := ha (r.end - 1) (by omega)
    unfold atP at h2
    rw [Option.map_eq_none_iff, List.find?_eq_none] at h2
    exact h2 r hr (hasP_iff.2 (by omega))
  · exact h1⟩
theorem Low.at_ {l : List Rg} (h : Low l) {p : Int} (hp : 60 ≤ p) : atP l p = none := atP_none fun r hr => by have := h.top r hr; omega
set_option maxRecDepth 100000 in
set_option maxHeartbeats 8000000 in
theorem form_spec (A : Option Addr) (m c : Nat) (l : List Rg) (h : Low l) : FnC Try.prog 29 [.slice A m c] (fun g => rdS encRg g A m l) (.bool true) := by
  have hfine := h.fine
  have hl8 := hfine.len
  have hin : ∀ r ∈ l, r.In := fun r hr => by
    have k := h.good.ok r hr
    exact ⟨by have := k.p; have := k.e; have := k.n; omega, by have := k.p; have := k.e; have := k.n; omega, by have := k.m; omega⟩
  have hck := fine_iff.2 hfine
  refine Ctr.intro Try.func29 rfl rfl (by decide +kernel) fun F hpre => ?_
  have r1 : rdS encRg F.heap A m l := hpre
  have hlen := r1.1
  repeat' (first | (refine XL_id ?_; first | refine XL_nil ?_ | (refine XL_op tt_ok rfl rfl ?_)) | (refine X_id ?_; first | refine X_seq ?_ | refine X_region ?_ | refine X_block ?_) | (refine Y_id ?_; refine Y_then ?_))
  refine X_loopD [0] (fun (i : Nat) => [(3, .int .i64 i)]) (fun _ => []) (fun i => i ≤ m) (fun i => m - i) 0 rfl (Nat.zero_le _) (by (repeat' (first | exact trivial | refine And.intro rfl ?_)); done) (fun _ h => h) ?_
  intro i hi
  have hi : i ≤ m := hi
  by_cases hlt : i < m
  · have okr := h.good.ok _ (get_mem (l := l) (i := (i : Int)) (by omega) (by omega))
    have tpr : (Cof.get l i).p + (Cof.get l i).n ≤ 60 := h.top _ (get_mem (l := l) (i := (i : Int)) (by omega) (by omega))
    have q1 := okr.p; have q2 := okr.n
    have kf : 0 < i → ((Cof.get l ((i : Int) - 1)).p + (Cof.get l ((i : Int) - 1)).n < (Cof.get l i).p ∨ ((Cof.get l ((i : Int) - 1)).p + (Cof.get l ((i : Int) - 1)).n = (Cof.get l i).p ∧ (Cof.get l ((i : Int) - 1)).m ≠ (Cof.get l i).m)) ∧ 1 ≤ (Cof.get l ((i : Int) - 1)).p ∧ 1 ≤ (Cof.get l ((i : Int) - 1)).n := fun h0 => by
      have e : (i : Int) - 1 = ((i - 1 : Nat) : Int) := by omega
      have k2 := h.good.ok _ (get_mem (l := l) (i := ((i - 1 : Nat) : Int)) (by omega) (by omega))
      rw [e]
      refine ⟨?_, k2.p, k2.n⟩
      have := (List.pairwise_iff_getElem.1 h.good.pw) (i - 1) i (by omega) (by omega) (by omega)
      rw [← get_eq, ← get_eq] at this
      exact this
    repeat' (first | (refine XL_id ?_; first | refine XL_nil ?_ | (refine XG_call ?_; (refine XL_op tt_ok rfl rfl ?_)) | (refine XL_op tt_ok rfl rfl ?_; try (first | refine XL_int (wrap_i64 (by omega) (by omega)) ?_ | refine XL_dec_t (by omega) ?_))) | (refine XD_id ?_; first | (refine XD_thaw thaw ?_; refine XD_nil ?_) | refine XD_no rfl rfl rfl rfl rfl rfl ?_ | refine XD_nou rfl rfl rfl rfl rfl ?_ | (refine XD_id ?_; (first | (refine XD_uL rfl ?_; refine XD_s rfl rfl rfl (XV_el tt_ok rfl (rdS.le (by assumption) hFG) rfl (by omega) (by omega) rfl rfl rfl) rfl ?_) | (refine XD_uI rfl ?_; refine XD_s rfl rfl rfl (XV_idx tt_ok rfl rfl rfl rfl rfl (rdS.le (by assumption) hFG) (by omega) (by omega)) rfl ?_) | (refine XD_gL rfl ?_; first | refine XD_sy rfl rfl rfl rfl rfl (XV_el tt_ok rfl (rdS.le (by assumption) hFG) rfl (by omega) (by omega) rfl rfl rfl) rfl ?_ | refine XD_sy rfl rfl rfl rfl rfl (XV_elf tt_ok rfl (rdS.le (by assumption) hFG) rfl (by omega) (by omega) rfl rfl rfl) rfl ?_) | (refine XD_gI rfl ?_; refine XD_sy rfl rfl rfl rfl rfl (XV_idx tt_ok rfl rfl rfl rfl rfl (rdS.le (by assumption) hFG) (by omega) (by omega)) rfl ?_) | (refine XD_u rfl rfl ?_; refine XD_s rfl rfl rfl (XV_op tt_ok rfl) rfl ?_) | (refine XD_g rfl rfl ?_; refine XD_sy rfl rfl rfl rfl rfl (XV_op tt_ok rfl) rfl ?_)); try (first | refine XD_int (wrap_i64 (by omega) (by omega)) ?_ | refine XD_dec_f (by omega) ?_ | refine XD_dec (fun _ => ?_) (fun _ => ?_)))) | (refine X_id ?_; first | (refine X_drawS (id := 4) [0, 1, 2, 3, 4, 5, 6, 7, 8, 9, 10, 11, 12, 13, 14, 15, 16, 17, 18, 19, 20, 21, 22, 23, 24, 25, 26, 27, 28, 29, 30, 31, 32, 33, 34, 35, 36, 37, 38, 39, 40, 41, 42, 43, 44, 45, 46, 47, 48, 49, 50, 51, 52, 53, 54, 55, 56, 57, 58, 59, 60, 61, 62, 63, 64, 65, 66, 67, 68, 69, 70, 71, 72, 73, 74, 75, 76, 77, 78, 79, 80, 81, 82, 83, 84, 85, 86, 87] (fun _ => .s) 8 (by repeat' (exact Split.nil)) mixed (by decide +kernel) ?_; intro G hFG hM thaw; show XD _ _ _ _ _ _ [0, 1, 2, 3, 4, 5, 6, 7, 8, 9, 10, 11, 12, 13, 14, 15, 16, 17, 18, 19, 20, 21, 22, 23, 24, 25, 26, 27, 28, 29, 30, 31, 32, 33, 34, 35, 36, 37, 38, 39, 40, 41, 42, 43, 44, 45, 46, 47, 48, 49, 50, 51, 52, 53, 54, 55, 56, 57, 58, 59, 60, 61, 62, 63, 64, 65, 66, 67, 68, 69, 70, 71, 72, 73, 74, 75, 76, 77, 78, 79, 80, 81, 82, 83, 84, 85, 86, 87] _ _ _) | refine X_seq ?_ | refine X_region ?_ | refine X_skip ?_ | refine X_block ?_ | refine X_cond_t rfl ?_ | refine X_cond_f rfl ?_) | (refine Y_id ?_; first | refine Y_then ?_ | refine Y_block_normal ?_))
    all_goals first
      | exact Y_again (i + 1) fun _ _ hf hs => ⟨by show i + 1 ≤ m; omega, by show m - (i + 1) < m - i; omega, hf.sub (by (repeat' (first | exact trivial | refine And.intro rfl ?_)); done), hs.nil⟩
      | (exfalso; omega)
      | skip
    
  · repeat' (first | (refine XL_id ?_; first | refine XL_nil ?_ | (refine XG_call ?_; first | (refine XL_op tt_ok rfl rfl ?_) | (refine XL_fn (check_spec _ _ _ l (by omega) hin) rfl rfl (fun g hg _ => r1.le hg) ?_; rw [hck])) | (refine XL_op tt_ok rfl rfl ?_; try (first | refine XL_dec_t (by omega) ?_ | refine XL_dec_f (by omega) ?_))) | (refine X_id ?_; first | refine X_seq ?_ | refine X_region ?_ | refine X_ret ?_ | refine X_exit ?_ | refine X_cond_f rfl ?_) | (refine Y_id ?_; first | refine Y_then ?_ | refine Y_then_exit ?_ | refine Y_block_hit ?_))
    all_goals first
      | exact Y_fn1 rfl rfl rfl
      | (exfalso; omega)
      | skip
    
theorem find_atP {l : List Rg} {page : Int} (h : Fine l) (h0 : 0 ≤ page) (h1 : page < 1048576) : (atP l page = none ∧ findP l page = (⟨0, 0, 0⟩, false, 0)) ∨ ∃ r, r ∈ l ∧ atP l page = some r.m ∧ findP l page = (r, true, 0) := by
  have hc := fine_iff.2 h
  rw [← findP_ref]
  cases hf : l.find? (hasP page) with
  | none => exact .inl ⟨by unfold atP; rw [hf]; rfl, rfindP_4 (by omega) (by omega) hf⟩
  | some r => exact .inr ⟨r, List.mem_of_find?_eq_some hf, by unfold atP; rw [hf]; rfl, rfindP_3 (by omega) (by omega) hf⟩
def code (x : Option Int) : Int := match x with | none => 0 | some m => 1 + m
def seenL (l : List Rg) : List Int := (List.range 60).map fun p : Nat => code (atP l p)
theorem seenL_length (l : List Rg) : (seenL l).length = 60 := by simp [seenL]
theorem seenL_get (l : List Rg) {j : Nat} (h : j < 60) : Cof.get (seenL l) j = code (atP l j) := by
  rw [get_eq (by rw [seenL_length]; exact h)]
  simp [seenL]
theorem partV_all {T : Tab} {α : Type} {E : Enc α} {t el : TypeId} {len : Nat} {xs : List α} {ti : TI} (hz : E.sz = 1) (h1 : xs.length = len) (ht : Cof.look T t = some ti) (hd : ti.desc = .array len el) (hsz : ti.size = len) : partV T t (flat E xs) 0 = some (.agg (flat E xs).toArray) := by
  have hagg : ti.agg = true := by unfold TI.agg; rw [hd]
  simp only [partV, ht, hagg, cond_true, List.drop_zero]
  rw [List.take_of_length_le (by rw [flat_length, hsz, hz, h1]; omega)]
set_option maxRecDepth 100000 in
set_option maxHeartbeats 8000000 in
theorem seen_spec (A : Option Addr) (m c : Nat) (l : List Rg) (h : Low l) : FnC Try.prog 30 [.slice A m c] (fun g => rdS encRg g A m l) (.agg (flat (encI .u8) (seenL l)).toArray) := by
  have hfine := h.fine
  have hl8 := hfine.len
  have hin : ∀ r ∈ l, r.In := fun r hr => by
    have k := h.good.ok r hr
    exact ⟨by have := k.p; have := k.e; have := k.n; omega, by have := k.p; have := k.e; have := k.n; omega, by have := k.m; omega⟩
  refine Ctr.intro Try.func30 rfl rfl (by decide +kernel) fun F hpre => ?_
  have r1 : rdS encRg F.heap A m l := hpre
  have hlen := r1.1
  repeat' (first | (refine XL_id ?_; first | refine XL_nil ?_ | (refine XG_alloc ?_; refine XL_alloc tt_ok rfl rfl (fun _ => rfl) (fun b => ?_)) | (refine XL_op tt_ok rfl rfl ?_)) | (refine X_id ?_; first | refine X_seq ?_ | refine X_region ?_ | refine X_block ?_) | (refine Y_id ?_; refine Y_then ?_))
  rename_i b2
  refine X_conv 0 (own (encI .u8) (some ⟨b, 0, none⟩) 60 60 (List.replicate 60 0)) rfl (fun h o => own_of_blk o rfl rfl (by decide)) ?_
  refine X_loopD2 [0, 2, 3] (fun (p : Nat) (xs : List Int) => [(4, .int .i64 p)]) (fun _ xs => [own (encI .u8) (some ⟨b, 0, none⟩) 60 60 xs, blk b2 (flat (encI .u8) (List.replicate 60 0)) 50]) (fun p xs => p ≤ 60 ∧ xs.length = 60 ∧ ∀ j : Nat, j < 60 → Cof.get xs j = if j < p then code (atP l j) else 0) (fun p _ => 60 - p) 0 (List.replicate 60 0) rfl ⟨Nat.zero_le _, by simp, fun j hj => by rw [if_neg (by omega), get_eq (by rw [List.length_replicate]; exact hj), List.getElem_replicate]⟩ (by (repeat' (first | exact trivial | refine And.intro rfl ?_)); done) (fun _ h => h) ?_
  intro p xs hp
  obtain ⟨hp, hx, hj⟩ := hp
  by_cases hlt : p < 60
  · have hf := find_spec A m c l p (by omega) hin
    have hjp := hj p hlt
    rw [if_neg (by omega)] at hjp
    rcases find_atP (page := (p : Int)) hfine (by omega) (by omega) with ⟨ha, he⟩ | ⟨r, hr, ha, he⟩
    · rw [he] at hf
      have hf : FnC Try.prog 32 [.slice A m c, .int .i64 p] (fun h => rdS encRg h A m l) (.tuple #[rgV ⟨0, 0, 0⟩, .bool false, .int .i64 0]) := hf
      repeat' (first | (refine XL_id ?_; first | refine XL_nil ?_ | refine XL_guard_yes rfl rfl rfl ?_ | (refine XG_call ?_; refine XL_fn hf rfl rfl (fun g hg _ => r1.le hg) ?_) | (refine XG_alloc ?_; refine XL_alloc tt_ok rfl rfl (fun _ => rfl) (fun b => ?_)) | (refine XG_store ?_; refine XL_storeW tt_ok 0 rfl rfl rfl rfl rfl rfl rfl ?_) | (refine XL_op tt_ok rfl rfl ?_; try (first | refine XL_int (wrap_i64 (by omega) (by omega)) ?_ | refine XL_dec_t (by omega) ?_))) | (refine X_id ?_; first | refine X_seq ?_ | refine X_region ?_ | refine X_skip ?_ | refine X_block ?_ | refine X_cond_t rfl ?_ | refine X_cond_f rfl ?_) | (refine Y_id ?_; first | refine Y_then ?_ | refine Y_block_normal ?_))
      all_goals first
        | exact Y_again (p + 1, xs) fun _ _ hf hs => ⟨⟨by show p + 1 ≤ 60; omega, hx, fun j h1 => by
            rw [hj j h1]
            by_cases h2 : j = p
            · subst h2; rw [if_neg (by omega), if_pos (by omega), ha]; rfl
            · by_cases h3 : j < p
              · rw [if_pos h3, if_pos (by omega)]
              · rw [if_neg h3, if_neg (by omega)]⟩, by show 60 - (p + 1) < 60 - p; omega, hf.sub (by (repeat' (first | exact trivial | refine And.intro rfl ?_)); done), hs.imp fun h hs => stars_only [1, 1] rfl h hs⟩
        | skip
      
    · rw [he] at hf
      have hf : FnC Try.prog 32 [.slice A m c, .int .i64 p] (fun h => rdS encRg h A m l) (.tuple #[rgV r, .bool true, .int .i64 0]) := hf
      have hm := (h.good.ok r hr).m
      repeat' (first | (refine XL_id ?_; first | refine XL_nil ?_ | refine XL_guard_yes rfl rfl rfl ?_ | (refine XG_load ?_; refine XL_load tt_ok 0 rfl rfl rfl rfl rfl rfl ?_) | (refine XG_idx ?_; refine XL_idxal tt_ok rfl rfl rfl rfl rfl (by omega) (by omega) rfl ?_) | (refine XG_call ?_; refine XL_fn hf rfl rfl (fun g hg _ => r1.le hg) ?_) | (refine XG_store ?_; first | refine XL_put1 tt_ok 1 (1 + r.m) rfl rfl rfl rfl rfl rfl rfl (by omega) rfl ?_ | refine XL_storeW tt_ok 0 rfl rfl rfl rfl rfl rfl rfl ?_) | (refine XG_alloc ?_; refine XL_alloc tt_ok rfl rfl (fun _ => rfl) (fun b => ?_)) | (refine XL_op tt_ok rfl rfl ?_; try (first | refine XL_int (wrap_i64 (by omega) (by omega)) ?_ | refine XL_int (wrap_u8 (by omega) (by omega)) ?_ | refine XL_dec_t (by omega) ?_))) | (refine X_id ?_; first | refine X_seq ?_ | refine X_region ?_ | refine X_skip ?_ | refine X_block ?_ | refine X_cond_t rfl ?_) | (refine Y_id ?_; first | refine Y_then ?_ | refine Y_block_normal ?_))
      all_goals first
        | exact Y_again (p + 1, xs.set p (1 + r.m)) fun _ _ hf hs => ⟨⟨by show p + 1 ≤ 60; omega, by show (xs.set p _).length = 60; rw [List.length_set]; exact hx, fun j h1 => by
            by_cases h2 : j = p
            · subst h2
              rw [if_pos (by omega), ha, get_eq (by rw [List.length_set]; omega), List.getElem_set_self]
              rfl
            · have : Cof.get (xs.set p (1 + r.m)) (j : Int) = Cof.get xs j := by
                unfold Cof.get
                rw [Int.toNat_natCast, List.getD_eq_getElem?_getD, List.getD_eq_getElem?_getD, List.getElem?_set_ne (by omega)]
              rw [this, hj j h1]
              by_cases h3 : j < p
              · rw [if_pos h3, if_pos (by omega)]
              · rw [if_neg h3, if_neg (by omega)]⟩, by show 60 - (p + 1) < 60 - p; omega, hf.sub (by (repeat' (first | exact trivial | refine And.intro rfl ?_)); done), hs.imp fun h hs => stars_only [1, 1] (by show takeP _ _ = _; rw [show 0 + ((p : Int)).toNat * 1 = p from by omega]; rfl) h hs⟩
        | skip
      
  · obtain rfl : p = 60 := by omega
    have hxs : xs = seenL l := (eq_prefix (by rw [hx, seenL_length])).2 fun j h1 => by rw [hj j (by omega), if_pos (by omega), seenL_get l (by omega)]
    repeat' (first | (refine XL_id ?_; first | refine XL_nil ?_ | (refine XG_load ?_; refine XL_loadA tt_ok 0 rfl rfl rfl (by omega) rfl rfl rfl rfl ?_) | (refine XG_store ?_; (refine XL_storeA tt_ok 1 rfl rfl rfl rfl (by simp [flat_length, encI]; omega) rfl (by simpa using flat_one _ _) ?_)) | (refine XL_op tt_ok rfl rfl ?_; try (refine XL_dec_f (by omega) ?_))) | (refine X_id ?_; first | refine X_seq ?_ | refine X_region ?_ | refine X_ret ?_ | refine X_exit ?_ | refine X_cond_f rfl ?_) | (refine Y_id ?_; first | refine Y_then ?_ | refine Y_then_exit ?_ | refine Y_block_hit ?_))
    have hdr : List.take 60 (List.drop 0 xs) = xs := by rw [List.drop_zero, List.take_of_length_le (by omega)]
    rw [hdr]
    have hpv : partV Tt 50 (flat (encI .u8) xs) 0 = some (.agg (flat (encI .u8) xs).toArray) := partV_all rfl hx rfl rfl rfl
    exact Y_res1 rfl (.cell tt_ok 1 rfl rfl rfl hpv (by rw [flat_length, hx]; rfl)) (L' := []) (fun _ _ => trivial) ⟨congrArg (fun y => Value.agg (flat (encI .u8) y).toArray) hxs, rfl⟩
end Go.Proofs.Ytpkffgbcebjhaaa
