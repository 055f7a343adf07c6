/- The law VmaPages, walked. -/
import Derived.Test.YtpkffgbcebjhaaaLm
set_option linter.unusedVariables false
namespace Go.Proofs.Ytpkffgbcebjhaaa
open Go.RowKit Go.Cof

theorem three {x : Int} (h : 0 ≤ x) : x % 3 = 0 ∨ x % 3 = 1 ∨ x % 3 = 2 := by omega
theorem ite_min {b : Int} : (if b < 20 then b else 20) = min 20 b := by split <;> omega
theorem seen_get (L : List Rg) {p : Int} (h0 : 0 ≤ p) (h1 : p < 60) : Cof.get (seenL L) p = code (atP L p) := by
  obtain ⟨j, rfl⟩ := Int.eq_ofNat_of_zero_le h0
  exact seenL_get L (by omega)
theorem mc_step (L : List Rg) {page p : Int} (h : page ≤ p) : mc L page (p + 1 - page).toNat = mc L page (p - page).toNat + if (atP L p).isSome = true then 1 else 0 := by
  rw [show (p + 1 - page).toNat = (p - page).toNat + 1 from by omega]
  show mc L page (p - page).toNat + (if (atP L (page + ((p - page).toNat : Int))).isSome = true then 1 else 0) = _
  rw [show page + ((p - page).toNat : Int) = p from by omega]
theorem rg_in {p q : Int} {k : Nat} (h1 : 1 ≤ p) (h2 : 1 ≤ k) (h3 : p + (k : Int) ≤ 60) (h4 : q = 0 ∨ q = 1 ∨ q = 3) : (⟨p, k, q⟩ : Rg).In := ⟨by show -9223372036854775808 ≤ p ∧ p ≤ 9223372036854775807; omega, by show -9223372036854775808 ≤ (k : Int) ∧ (k : Int) ≤ 9223372036854775807; omega, by show 0 ≤ q ∧ q < 256; omega⟩
theorem rg_inI {p q n : Int} (h1 : 1 ≤ p) (h2 : 1 ≤ n) (h3 : p + n ≤ 60) (h4 : q = 0 ∨ q = 1 ∨ q = 3) : (⟨p, n, q⟩ : Rg).In := by
  obtain ⟨k, rfl⟩ := Int.eq_ofNat_of_zero_le (show 0 ≤ n by omega)
  exact rg_in h1 (by omega) h3 h4
theorem sw_putI {L : List Rg} (h : Low L) {page n m : Int} (h1 : 1 ≤ page) (hk : 1 ≤ n) (h2 : page + n ≤ 60) (hm : m = 0 ∨ m = 1 ∨ m = 3) : Sw L page n (mc L page n.toNat) (putP L ⟨page, n, m⟩).1 (putP L ⟨page, n, m⟩).2 (if 0 < mc L page n.toNat then 171 else 0) (1 + m) := by
  obtain ⟨k, rfl⟩ := Int.eq_ofNat_of_zero_le (show 0 ≤ n by omega)
  exact sw_put h h1 (by omega) h2 hm
theorem sw_cutI {L : List Rg} (h : Low L) {page n : Int} (h1 : 1 ≤ page) (hk : 1 ≤ n) (h2 : page + n ≤ 60) : Sw L page n (mc L page n.toNat) (cutP L page n).1 (cutP L page n).2 0 0 := by
  obtain ⟨k, rfl⟩ := Int.eq_ofNat_of_zero_le (show 0 ≤ n by omega)
  exact sw_cut h h1 (by omega) h2
theorem sw_protI {L : List Rg} (h : Low L) {page n m : Int} (h1 : 1 ≤ page) (hk : 1 ≤ n) (h2 : page + n ≤ 60) (hm : m = 0 ∨ m = 1 ∨ m = 3) : Sw L page n (mc L page n.toNat) (protP L page n m).1 (protP L page n m).2 (if mc L page n.toNat < n then 170 else 0) (1 + m) := by
  obtain ⟨k, rfl⟩ := Int.eq_ofNat_of_zero_le (show 0 ≤ n by omega)
  exact sw_prot h h1 (by omega) h2 hm
theorem set_upto {L : List Rg} {ys : List Int} {page p put : Int} {j : Nat} (hl : ys.length = 60) (h1 : 1 ≤ page ∧ page ≤ p) (h2 : p < 60) (h : Cof.get ys j = if page ≤ (j : Int) ∧ (j : Int) < p then put else code (atP L j)) : Cof.get (ys.set (0 + p.toNat * 1) put) j = if page ≤ (j : Int) ∧ (j : Int) < p + 1 then put else code (atP L j) := by
  by_cases hj : (j : Int) = p
  · rw [if_pos (by omega)]
    have : 0 + p.toNat * 1 = j := by omega
    rw [this]
    simp [Cof.get, List.getD_eq_getElem?_getD, show j < ys.length by omega]
  · have hne : 0 + p.toNat * 1 ≠ j := by omega
    have e : Cof.get (ys.set (0 + p.toNat * 1) put) j = Cof.get ys j := by
      unfold Cof.get
      rw [List.getD_eq_getElem?_getD, List.getD_eq_getElem?_getD, List.getElem?_set_ne (by rw [Int.toNat_natCast]; exact hne)]
    rw [e, h]
    by_cases hc : page ≤ (j : Int) ∧ (j : Int) < p
    · rw [if_pos hc, if_pos (by omega)]
    · rw [if_neg hc, if_neg (by omega)]
theorem low_nil : Low [] := Low.of_at ⟨by simp, by simp⟩ fun p _ => rfl
set_option maxRecDepth 100000 in
set_option maxHeartbeats 16000000 in
theorem vmaPages_walk (A : Option Addr) (m c : Nat) (l : List Ak) (hm : m ≤ 5864062014634) (hmc : m ≤ c) (hl : ∀ x ∈ l, x.In) :
    FnC Try.prog 9 [.slice A m c] (fun h => rdS encAk h A m l) (.bool true) := by
  refine Ctr.intro Try.func9 rfl rfl (by decide +kernel) fun F hpre => ?_
  have r1 : rdS encAk F.heap A m l := hpre
  have hlen := r1.1
  repeat' (first | (refine XL_id ?_; first | refine XL_nil ?_ | (refine XG_call ?_; refine XL_fn works_spec rfl rfl (fun _ _ _ => trivial) ?_) | (refine XG_alloc ?_; refine XL_alloc tt_ok rfl rfl (fun _ => rfl) (fun b => ?_)) | (refine XL_op tt_ok rfl rfl ?_)) | (refine X_id ?_; first | refine X_seq ?_ | refine X_region ?_ | refine X_skip ?_ | refine X_block ?_ | refine X_cond_f rfl ?_) | (refine Y_id ?_; refine Y_then ?_))
  refine X_conv 0 (own (encI .u8) (some ⟨b, 0, none⟩) 60 60 (List.replicate 60 0)) rfl (fun h o => own_of_blk o rfl rfl (by decide)) ?_
  refine X_loopD2 [0, 4] (fun (i : Nat) (o : Ow Rg) => [(5, .int .i64 i), (3, o.v)]) (fun _ o => [o.own encRg, own (encI .u8) (some ⟨b, 0, none⟩) 60 60 (seenL o.xs)]) (fun i o => i ≤ m ∧ Low o.xs ∧ o.m = o.xs.length) (fun i _ => m - i) 0 ⟨none, 0, 0, []⟩ rfl ⟨Nat.zero_le _, low_nil, rfl⟩ (by (repeat' (first | exact trivial | refine And.intro rfl ?_)); done) (fun h hs => stars_new (own_nil encRg _) hs) ?_
  intro i o hi
  obtain ⟨hi, hlow, hom⟩ := hi
  have hol := hlow.fine.len
  have hin : ∀ r ∈ o.xs, r.In := fun r hr => by
    have k := hlow.good.ok r hr
    exact ⟨by have := k.p; have := k.e; have := k.n; omega, by have := k.p; have := k.e; have := k.n; omega, by have := k.m; omega⟩
  refine X_fact 0 rfl (fun _ w => own_len w) fun ow => ?_
  have owc := ow.2.1
  by_cases hlt : i < m ∧ i < 80
  · have hx := hl _ (get_mem (l := l) (i := (i : Int)) (by omega) (by omega))
    have x1 := hx.p; have x2 := hx.n; have x3 := hx.m; have x4 := hx.a
    have h3 := three x3.1
    repeat' (first | (refine XL_id ?_; first | refine XL_nil ?_ | refine XL_guard_yes rfl rfl rfl ?_ | (refine XG_load ?_; first | refine XL_load tt_ok 0 rfl rfl rfl rfl rfl rfl ?_ | refine XL_load tt_ok 1 rfl rfl rfl rfl rfl rfl ?_ | refine XL_elW tt_ok rfl (by assumption) rfl (by omega) (by omega) rfl rfl rfl rfl ?_) | (refine XG_idx ?_; first | refine XL_idx tt_ok rfl rfl rfl rfl rfl (by assumption) (by omega) (by omega) rfl ?_ | refine XL_idxl tt_ok rfl rfl rfl rfl rfl (by omega) (by omega) rfl ?_) | (refine XG_build ?_; refine XL_build tt_ok rfl rfl rfl rfl rfl rfl rfl ?_) | (refine XG_alloc ?_; refine XL_alloc (et := 24) tt_ok rfl rfl (fun _ => rfl) (fun ax => ?_)) | (refine XG_call ?_; first | (refine XL_op tt_ok rfl rfl ?_; refine XL_int ite_min ?_) | (refine XL_op tt_ok rfl rfl ?_) | (refine XL_callK [] (within_rel (Cof.get l (i : Int)).p 59 (by omega) (by omega)) rfl rfl (fun _ => rfl) (fun _ _ _ => trivial) (fun u L hv => ?_); obtain ⟨z, hz0, hz1, rfl, rfl⟩ := hv) | (refine XL_callK [] (within_rel (Cof.get l (i : Int)).n _ (by omega) (by omega)) rfl rfl (fun _ => rfl) (fun _ _ _ => trivial) (fun u L hv => ?_); obtain ⟨k, hy0, hy1, rfl, rfl⟩ := hv) | (refine XL_callK [] (within_rel (Cof.get l (i : Int)).a 3 (by omega) (by omega)) rfl rfl (fun _ => rfl) (fun _ _ _ => trivial) (fun u L hv => ?_); obtain ⟨z3, hz30, hz31, rfl, rfl⟩ := hv) | (refine XL_callK [] (put_spec o.A o.m o.c o.xs ⟨jq.1, jq.2.1, jq.2.2⟩ (by omega) owc hin hri) rfl rfl (fun _ => rfl) (fun g hg hL => (by exact rd_at 1 rfl hL)) (fun u L hv => ?_); obtain ⟨o1, ho1, mo1, rfl, rfl⟩ := hv) | (refine XL_callK [] (cut_spec o.A o.m o.c o.xs jq.1 jq.2.1 (by omega) owc hin (by omega)) rfl rfl (fun _ => rfl) (fun g hg hL => (by exact rd_at 1 rfl hL)) (fun u L hv => ?_); obtain ⟨o1, ho1, mo1, rfl, rfl⟩ := hv) | (refine XL_callK [] (prot_spec o.A o.m o.c o.xs jq.1 jq.2.1 jq.2.2 (by omega) owc hin (by omega)) rfl rfl (fun _ => rfl) (fun g hg hL => (by exact rd_at 1 rfl hL)) (fun u L hv => ?_); obtain ⟨o1, ho1, mo1, rfl, rfl⟩ := hv) | (refine XL_fn (form_spec jw.1.A jw.1.m jw.1.c jw.1.xs hlw) rfl rfl (fun g hg _ => by exact (rd_at 0 rfl hM).le hg) ?_) | (refine XL_fn (seen_spec jw.1.A jw.1.m jw.1.c jw.1.xs hlw) rfl rfl (fun g hg _ => by exact (rd_at 0 rfl hM).le hg) ?_)) | (refine XG_lit ?_; refine XL_lit tt_ok rfl rfl rfl rfl rfl rfl rfl rfl rfl (fun _ => rfl) (fun b => ?_)) | (refine XG_store ?_; refine XL_storeW tt_ok 0 rfl rfl rfl rfl rfl rfl rfl ?_) | (refine XL_op tt_ok rfl rfl ?_; refine XL_int (rem_pos (by omega)) ?_; refine XL_int hq3 ?_) | (refine XL_op tt_ok rfl rfl ?_; try (first | refine XL_int (wrap_i64 (by omega) (by omega)) ?_ | refine XL_int (wrap_u8 (by omega) (by omega)) ?_ | refine XL_dec_t (by omega) ?_ | refine XL_dec_f (by omega) ?_ | refine XL_dec (fun _ => ?_) (fun _ => ?_)))) | (refine XD_id ?_; first | (refine XD_thaw thaw ?_; refine XD_nil ?_) | (refine XD_id ?_; (first | (refine XD_gL rfl ?_; refine XD_sy rfl rfl rfl rfl rfl (XV_loadA tt_ok rfl (rd_at 2 rfl hM) rfl rfl rfl rfl rfl) rfl ?_) | (refine XD_u rfl rfl ?_; refine XD_s rfl rfl rfl (XV_op tt_ok rfl) rfl ?_) | (refine XD_g rfl rfl ?_; first | refine XD_sy rfl rfl rfl rfl rfl (XV_op tt_ok rfl) rfl ?_ | refine XD_sy rfl rfl rfl rfl rfl (XV_neqI eqI60 (seenL_length _) (seenL_length _) rfl rfl) rfl ?_)); try (refine XD_dec (fun _ => ?_) (fun _ => ?_))) | refine XD_m rfl rfl ?_) | (refine X_id ?_; first | (refine X_drawS (id := 41) [0, 1, 2, 3, 4, 6, 5, 7, 8] (fun | 1 => .m | 5 => .m | _ => .s) 8 (by (repeat apply Split.blk); apply Split.frz; (repeat apply Split.blk); apply Split.keep; (repeat apply Split.blk); apply Split.frz; repeat' (exact Split.nil)) mixed (by decide +kernel) ?_; intro G hFG hM thaw; show XD _ _ _ _ _ _ [0, 1, 2, 3, 4, 6, 5, 7, 8] _ _ _) | (refine X_cutD (c := .region 11 _ _) [0, 3, 4, 5, 6] (fun (j : Int × Int × Int) => [(9, .int .u8 j.2.2), (7, .int .i64 j.1), (8, .int .i64 j.2.1)]) (fun _ => [blk ax [.int .i64 (Cof.get l (i : Int)).p, .int .i64 (Cof.get l (i : Int)).n, .int .u8 (Cof.get l (i : Int)).m, .int .i64 (Cof.get l (i : Int)).a] 24, o.own encRg, own (encI .u8) (some ⟨b, 0, none⟩) 60 60 (seenL o.xs)]) (fun j => 1 ≤ j.1 ∧ 1 ≤ j.2.1 ∧ j.1 + j.2.1 ≤ 60 ∧ (j.2.2 = 0 ∨ j.2.2 = 1 ∨ j.2.2 = 3)) rfl (h3.elim (fun hq3 => X_region ?_) fun h => h.elim (fun hq3 => X_region ?_) fun hq3 => X_region ?_) (fun jq hjq => have q1 : 1 ≤ jq.1 := hjq.1; have q2 : 1 ≤ jq.2.1 := hjq.2.1; have q3 : jq.1 + jq.2.1 ≤ 60 := hjq.2.2.1; have q4 : jq.2.2 = 0 ∨ jq.2.2 = 1 ∨ jq.2.2 = 3 := hjq.2.2.2; have hri := rg_inI q1 q2 q3 q4; have hmc := mc_le o.xs jq.1 jq.2.1.toNat; ?_)) | refine X_cutD (c := .block 2 _) [0, 3, 4, 5, 6, 7, 8, 9] (fun (_ : Unit) => [(10, .int .i64 (mc o.xs jq.1 jq.2.1.toNat))]) (fun _ => [blk ax [.int .i64 (Cof.get l (i : Int)).p, .int .i64 (Cof.get l (i : Int)).n, .int .u8 (Cof.get l (i : Int)).m, .int .i64 (Cof.get l (i : Int)).a] 24, o.own encRg, own (encI .u8) (some ⟨b, 0, none⟩) 60 60 (seenL o.xs)]) (fun _ => True) rfl (X_block ?_) (fun _ _ => ?_) | (refine X_cutD (c := .block 4 _) [0, 3, 4, 5, 7, 8] (fun (j : Ow Rg × Int × Int × Int) => [(12, j.1.v), (13, .int .i64 j.2.1), (14, .int .i64 j.2.2.1), (15, .int .u8 j.2.2.2)]) (fun j => [j.1.own encRg, blk ax [.int .i64 (Cof.get l (i : Int)).p, .int .i64 (Cof.get l (i : Int)).n, .int .u8 (Cof.get l (i : Int)).m, .int .i64 (Cof.get l (i : Int)).a] 24, o.own encRg, own (encI .u8) (some ⟨b, 0, none⟩) 60 60 (seenL o.xs)]) (fun j => Sw o.xs jq.1 jq.2.1 (mc o.xs jq.1 jq.2.1.toNat) j.1.xs j.2.1 j.2.2.1 j.2.2.2 ∧ j.1.m = j.1.xs.length) rfl (X_block ?_) (fun jw hjw => have hsame : jw.2.1 = jw.2.2.1 := hjw.1.same; have hrng := hjw.1.rng; ?_)) | (refine X_cutD (c := .block 5 _) [0, 3, 4, 5] (fun (_ : Unit) => []) (fun _ => [jw.1.own encRg, blk ax [.int .i64 (Cof.get l (i : Int)).p, .int .i64 (Cof.get l (i : Int)).n, .int .u8 (Cof.get l (i : Int)).m, .int .i64 (Cof.get l (i : Int)).a] 24, o.own encRg, own (encI .u8) (some ⟨b, 0, none⟩) 60 60 (seenL jw.1.xs)]) (fun _ => True) rfl (X_block ?_) (fun _ _ => have hlw : Low jw.1.xs := (hjw.1.ok (by omega)).1; ?_)) | refine X_seq ?_ | refine X_region ?_ | refine X_skip ?_ | refine X_ret ?_ | refine X_exit ?_ | refine X_block ?_ | refine X_cond_t rfl ?_ | refine X_cond_f rfl ?_) | (refine Y_id ?_; first | refine Y_then ?_ | refine Y_then_ret ?_ | refine Y_then_exit ?_ | refine Y_block_hit ?_ | refine Y_block_normal ?_ | refine Y_block_ret ?_ | refine Y_m ?_))
    all_goals first
      | have _ := (hq3 : (Cof.get l (i : Int)).m % 3 = 0); exact Y_again (1 + z, 1 + k, 0) fun _ _ hf hs => ⟨⟨by show 1 ≤ 1 + z; omega, by show 1 ≤ 1 + k; omega, by show 1 + z + (1 + k) ≤ 60; omega, .inl rfl⟩, hf.sub (by (repeat' (first | exact trivial | refine And.intro rfl ?_)); done), hs.imp fun h hs => stars_only [1, 1, 1] rfl h hs⟩
      | have _ := (hq3 : (Cof.get l (i : Int)).m % 3 = 1); exact Y_again (1 + z, 1 + k, 1) fun _ _ hf hs => ⟨⟨by show 1 ≤ 1 + z; omega, by show 1 ≤ 1 + k; omega, by show 1 + z + (1 + k) ≤ 60; omega, .inr (.inl rfl)⟩, hf.sub (by (repeat' (first | exact trivial | refine And.intro rfl ?_)); done), hs.imp fun h hs => stars_only [1, 1, 1] rfl h hs⟩
      | have _ := (hq3 : (Cof.get l (i : Int)).m % 3 = 2); exact Y_again (1 + z, 1 + k, 3) fun _ _ hf hs => ⟨⟨by show 1 ≤ 1 + z; omega, by show 1 ≤ 1 + k; omega, by show 1 + z + (1 + k) ≤ 60; omega, .inr (.inr rfl)⟩, hf.sub (by (repeat' (first | exact trivial | refine And.intro rfl ?_)); done), hs.imp fun h hs => stars_only [1, 1, 1] rfl h hs⟩
      | exact Y_again (o1, (putP o.xs ⟨jq.1, jq.2.1, jq.2.2⟩).2, 171, 1 + jq.2.2) fun _ _ hf hs => ⟨⟨by have h9 := sw_putI hlow q1 q2 q3 q4; rw [if_pos (by omega)] at h9; show Sw _ _ _ _ o1.xs _ _ _; rw [ho1]; exact h9, mo1⟩, hf.sub (by (repeat' (first | exact trivial | refine And.intro rfl ?_)); done), hs.imp fun h hs => stars_only [0, 0, 0, 0] rfl h hs⟩
      | exact Y_again (o1, (putP o.xs ⟨jq.1, jq.2.1, jq.2.2⟩).2, 0, 1 + jq.2.2) fun _ _ hf hs => ⟨⟨by have h9 := sw_putI hlow q1 q2 q3 q4; rw [if_neg (by omega)] at h9; show Sw _ _ _ _ o1.xs _ _ _; rw [ho1]; exact h9, mo1⟩, hf.sub (by (repeat' (first | exact trivial | refine And.intro rfl ?_)); done), hs.imp fun h hs => stars_only [0, 0, 0, 0] rfl h hs⟩
      | exact Y_again (o1, (cutP o.xs jq.1 jq.2.1).2, 0, 0) fun _ _ hf hs => ⟨⟨by have h9 := sw_cutI hlow q1 q2 q3; show Sw _ _ _ _ o1.xs _ _ _; rw [ho1]; exact h9, mo1⟩, hf.sub (by (repeat' (first | exact trivial | refine And.intro rfl ?_)); done), hs.imp fun h hs => stars_only [0, 0, 0, 0] rfl h hs⟩
      | exact Y_again (o1, (protP o.xs jq.1 jq.2.1 jq.2.2).2, 170, 1 + jq.2.2) fun _ _ hf hs => ⟨⟨by have h9 := sw_protI hlow q1 q2 q3 q4; rw [if_pos (by omega)] at h9; show Sw _ _ _ _ o1.xs _ _ _; rw [ho1]; exact h9, mo1⟩, hf.sub (by (repeat' (first | exact trivial | refine And.intro rfl ?_)); done), hs.imp fun h hs => stars_only [0, 0, 0, 0] rfl h hs⟩
      | exact Y_again (o1, (protP o.xs jq.1 jq.2.1 jq.2.2).2, 0, 1 + jq.2.2) fun _ _ hf hs => ⟨⟨by have h9 := sw_protI hlow q1 q2 q3 q4; rw [if_neg (by omega)] at h9; show Sw _ _ _ _ o1.xs _ _ _; rw [ho1]; exact h9, mo1⟩, hf.sub (by (repeat' (first | exact trivial | refine And.intro rfl ?_)); done), hs.imp fun h hs => stars_only [0, 0, 0, 0] rfl h hs⟩
      | exact Y_again (i + 1, o) fun _ _ hf hs => ⟨⟨by show i + 1 ≤ m; omega, hlow, hom⟩, by show m - (i + 1) < m - i; omega, hf.sub (by (repeat' (first | exact trivial | refine And.intro rfl ?_)); done), hs.imp fun h hs => stars_only [2, 2] rfl h hs⟩
      | exact Y_again (i + 1, jw.1) fun _ _ hf hs => ⟨⟨by show i + 1 ≤ m; omega, hlw, hjw.2⟩, by show m - (i + 1) < m - i; omega, hf.sub (by (repeat' (first | exact trivial | refine And.intro rfl ?_)); done), hs.imp fun h hs => stars_only [1, 2] rfl h hs⟩
      | exact Y_again (i + 1, jw.1) fun _ _ hf hs => ⟨⟨by show i + 1 ≤ m; omega, hlw, hjw.2⟩, by show m - (i + 1) < m - i; omega, hf.sub (by (repeat' (fail)); done), hs.imp fun h hs => stars_only [0, 2] rfl h hs⟩
      | exact Y_again (i + 1, jw.1) fun _ _ hf hs => ⟨⟨by show i + 1 ≤ m; omega, hlw, hjw.2⟩, by show m - (i + 1) < m - i; omega, hf.sub (by (repeat' (fail)); done), hs.imp fun h hs => stars_only [0, 1] rfl h hs⟩
      | exact Y_again (i + 1, jw.1) fun _ _ hf hs => ⟨⟨by show i + 1 ≤ m; omega, hlw, hjw.2⟩, by show m - (i + 1) < m - i; omega, hf.sub (by (repeat' (fail)); done), hs.imp fun h hs => stars_only [1, 1] rfl h hs⟩
      | exact absurd rfl (by assumption)
      | skip
    · refine X_loopD2 [0, 3, 4, 5, 6, 7, 8, 9] (fun (p v : Int) => [(11, .int .i64 p), (10, .int .i64 v)]) (fun _ _ => [blk ax [.int .i64 (Cof.get l (i : Int)).p, .int .i64 (Cof.get l (i : Int)).n, .int .u8 (Cof.get l (i : Int)).m, .int .i64 (Cof.get l (i : Int)).a] 24, o.own encRg, own (encI .u8) (some ⟨b, 0, none⟩) 60 60 (seenL o.xs)]) (fun p v => jq.1 ≤ p ∧ p ≤ jq.1 + jq.2.1 ∧ v = mc o.xs jq.1 (p - jq.1).toNat) (fun p _ => (jq.1 + jq.2.1 - p).toNat) jq.1 0 rfl ⟨by omega, by omega, by rw [Int.sub_self]; rfl⟩ (by (repeat' (first | exact trivial | refine And.intro rfl ?_)); done) (fun _ h => h) ?_
      intro p v hp
      obtain ⟨p1, p2, hv⟩ := hp
      have hvb := mc_le o.xs jq.1 (p - jq.1).toNat
      by_cases hlt2 : p < jq.1 + jq.2.1
      · have hst := mc_step o.xs p1
        have hsg := seen_get o.xs (p := p) (by omega) (by omega)
        have hcp := code_pos hlow p
        by_cases hs0 : atP o.xs p = none
        · have hz0 : Cof.get (seenL o.xs) p = 0 := hsg.trans (hcp.2.2.2 hs0)
          rw [hs0] at hst
          have hst : mc o.xs jq.1 (p + 1 - jq.1).toNat = mc o.xs jq.1 (p - jq.1).toNat + 0 := hst
          repeat' (first | (refine XL_id ?_; first | refine XL_nil ?_ | (refine XG_load ?_; refine XL_elo tt_ok 2 rfl rfl rfl (by omega) (by omega) rfl rfl rfl rfl ?_) | (refine XG_idx ?_; refine XL_idxa tt_ok rfl rfl rfl rfl rfl (by omega) (by omega) rfl ?_) | (refine XL_op tt_ok rfl rfl ?_; try (first | refine XL_int (wrap_i64 (by omega) (by omega)) ?_ | refine XL_dec_t (by omega) ?_ | refine XL_dec_f (by omega) ?_))) | (refine X_id ?_; first | refine X_seq ?_ | refine X_region ?_ | refine X_skip ?_ | refine X_block ?_ | refine X_cond_t rfl ?_ | refine X_cond_f rfl ?_) | (refine Y_id ?_; first | refine Y_then ?_ | refine Y_block_normal ?_))
          all_goals first
            | exact Y_again (p + 1, v) fun _ _ hf hs => ⟨⟨by show jq.1 ≤ p + 1; omega, by show p + 1 ≤ jq.1 + jq.2.1; omega, by show v = mc o.xs jq.1 (p + 1 - jq.1).toNat; omega⟩, by show (jq.1 + jq.2.1 - (p + 1)).toNat < (jq.1 + jq.2.1 - p).toNat; omega, hf.sub (by (repeat' (first | exact trivial | refine And.intro rfl ?_)); done), hs.imp fun h hs => stars_only [0, 0, 0] rfl h hs⟩
            | skip
          
        · have hz0 : Cof.get (seenL o.xs) p ≠ 0 := fun h => hs0 (hcp.2.2.1 (hsg.symm.trans h))
          have hst : mc o.xs jq.1 (p + 1 - jq.1).toNat = mc o.xs jq.1 (p - jq.1).toNat + 1 := by
            rw [hst, if_pos (by cases hx : atP o.xs p with | none => exact absurd hx hs0 | some _ => rfl)]
          repeat' (first | (refine XL_id ?_; first | refine XL_nil ?_ | (refine XG_load ?_; refine XL_elo tt_ok 2 rfl rfl rfl (by omega) (by omega) rfl rfl rfl rfl ?_) | (refine XG_idx ?_; refine XL_idxa tt_ok rfl rfl rfl rfl rfl (by omega) (by omega) rfl ?_) | (refine XL_op tt_ok rfl rfl ?_; try (first | refine XL_int (wrap_i64 (by omega) (by omega)) ?_ | refine XL_dec_t (by omega) ?_))) | (refine X_id ?_; first | refine X_seq ?_ | refine X_region ?_ | refine X_skip ?_ | refine X_block ?_ | refine X_cond_t rfl ?_) | (refine Y_id ?_; first | refine Y_then ?_ | refine Y_block_normal ?_))
          all_goals first
            | exact Y_again (p + 1, v + 1) fun _ _ hf hs => ⟨⟨by show jq.1 ≤ p + 1; omega, by show p + 1 ≤ jq.1 + jq.2.1; omega, by show v + 1 = mc o.xs jq.1 (p + 1 - jq.1).toNat; omega⟩, by show (jq.1 + jq.2.1 - (p + 1)).toNat < (jq.1 + jq.2.1 - p).toNat; omega, hf.sub (by (repeat' (first | exact trivial | refine And.intro rfl ?_)); done), hs.imp fun h hs => stars_only [0, 0, 0] rfl h hs⟩
            | skip
          
      · obtain rfl : p = jq.1 + jq.2.1 := by omega
        rw [show jq.1 + jq.2.1 - jq.1 = jq.2.1 from by omega] at hv
        subst hv
        repeat' (first | (refine XL_id ?_; first | refine XL_nil ?_ | (refine XL_op tt_ok rfl rfl ?_; try (first | refine XL_int (wrap_i64 (by omega) (by omega)) ?_ | refine XL_dec_f (by omega) ?_))) | (refine X_id ?_; first | refine X_seq ?_ | refine X_region ?_ | refine X_exit ?_ | refine X_cond_f rfl ?_) | (refine Y_id ?_; first | refine Y_then ?_ | refine Y_then_exit ?_ | refine Y_block_hit ?_))
        all_goals first
          | exact Y_again () fun _ _ hf hs => ⟨trivial, hf.sub (by (repeat' (first | exact trivial | refine And.intro rfl ?_)); done), hs.imp fun h hs => stars_only [0, 0, 0] rfl h hs⟩
          | skip
        
    · refine X_loopD2 [0, 3, 4, 5, 7, 8, 15] (fun (p : Int) (ys : List Int) => [(16, .int .i64 p)]) (fun _ ys => [jw.1.own encRg, blk ax [.int .i64 (Cof.get l (i : Int)).p, .int .i64 (Cof.get l (i : Int)).n, .int .u8 (Cof.get l (i : Int)).m, .int .i64 (Cof.get l (i : Int)).a] 24, o.own encRg, own (encI .u8) (some ⟨b, 0, none⟩) 60 60 ys]) (fun p ys => jq.1 ≤ p ∧ p ≤ jq.1 + jq.2.1 ∧ ys.length = 60 ∧ ∀ j : Nat, j < 60 → Cof.get ys j = if jq.1 ≤ (j : Int) ∧ (j : Int) < p then jw.2.2.2 else code (atP o.xs j)) (fun p _ => (jq.1 + jq.2.1 - p).toNat) jq.1 (seenL o.xs) rfl ⟨by omega, by omega, seenL_length _, fun j hj => by rw [if_neg (by omega)]; exact seenL_get _ hj⟩ (by (repeat' (first | exact trivial | refine And.intro rfl ?_)); done) (fun _ h => h) ?_
      intro p ys hp
      obtain ⟨p1, p2, hyl, hyg⟩ := hp
      by_cases hlt2 : p < jq.1 + jq.2.1
      · repeat' (first | (refine XL_id ?_; first | refine XL_nil ?_ | (refine XG_idx ?_; refine XL_idxal tt_ok rfl rfl rfl rfl rfl (by omega) (by omega) rfl ?_) | (refine XG_store ?_; refine XL_put1 tt_ok 3 jw.2.2.2 rfl rfl rfl rfl rfl rfl rfl (by omega) rfl ?_) | (refine XL_op tt_ok rfl rfl ?_; try (first | refine XL_int (wrap_i64 (by omega) (by omega)) ?_ | refine XL_dec_t (by omega) ?_))) | (refine X_id ?_; first | refine X_seq ?_ | refine X_region ?_ | refine X_skip ?_ | refine X_block ?_ | refine X_cond_t rfl ?_) | (refine Y_id ?_; first | refine Y_then ?_ | refine Y_block_normal ?_))
        all_goals first
          | exact Y_again (p + 1, ys.set (0 + p.toNat * 1) jw.2.2.2) fun _ _ hf hs => ⟨⟨by show jq.1 ≤ p + 1; omega, by show p + 1 ≤ jq.1 + jq.2.1; omega, by rw [List.length_set]; exact hyl, fun j hj => set_upto (by omega) (by omega) (by omega) (hyg j hj)⟩, by show (jq.1 + jq.2.1 - (p + 1)).toNat < (jq.1 + jq.2.1 - p).toNat; omega, hf.sub (by (repeat' (first | exact trivial | refine And.intro rfl ?_)); done), hs⟩
          | skip
        
      · obtain rfl : p = jq.1 + jq.2.1 := by omega
        have hok2 := (hjw.1.ok (by omega)).2
        have hys : ys = seenL jw.1.xs := (eq_prefix (by rw [hyl, seenL_length])).2 fun j hj => by
          rw [hyg j (by omega), seenL_get _ (by omega), hok2 j]
        subst hys
        repeat' (first | (refine XL_id ?_; first | refine XL_nil ?_ | (refine XL_op tt_ok rfl rfl ?_; try (first | refine XL_int (wrap_i64 (by omega) (by omega)) ?_ | refine XL_dec_f (by omega) ?_))) | (refine X_id ?_; first | refine X_seq ?_ | refine X_region ?_ | refine X_exit ?_ | refine X_cond_f rfl ?_) | (refine Y_id ?_; first | refine Y_then ?_ | refine Y_then_exit ?_ | refine Y_block_hit ?_))
        all_goals first
          | exact Y_again () fun _ _ hf hs => ⟨trivial, hf.sub (by (repeat' (first | exact trivial | refine And.intro rfl ?_)); done), hs.imp fun h hs => stars_only [0, 0, 0, 0] rfl h hs⟩
          | skip
        
    
  · repeat' (first | (refine XL_id ?_; first | refine XL_nil ?_ | refine XL_guard_yes rfl rfl rfl ?_ | refine XL_guard_no rfl rfl rfl rfl rfl ?_ | (refine XG_call ?_; (refine XL_op tt_ok rfl rfl ?_)) | (refine XL_op tt_ok rfl rfl ?_; try (first | refine XL_dec_f (by omega) ?_ | refine XL_dec (fun _ => ?_) (fun _ => ?_)))) | (refine X_id ?_; first | refine X_seq ?_ | refine X_region ?_ | refine X_exit ?_ | refine X_block ?_ | refine X_cond_f rfl ?_) | (refine Y_id ?_; first | refine Y_then ?_ | refine Y_then_exit ?_ | refine Y_block_hit ?_))
    all_goals (
      refine X_loopD2 [3, 4] (fun (p : Nat) (v : Int) => [(18, .int .i64 p), (17, .int .i64 v)]) (fun _ _ => [o.own encRg, own (encI .u8) (some ⟨b, 0, none⟩) 60 60 (seenL o.xs)]) (fun p v => p ≤ 60 ∧ v = mc o.xs 0 p) (fun p _ => 60 - p) 0 0 rfl ⟨by omega, rfl⟩ (by (repeat' (first | exact trivial | refine And.intro rfl ?_)); done) (fun _ h => h) ?_
      intro p v hp
      obtain ⟨p2, hv⟩ := hp
      have hvb := mc_le o.xs 0 p
      by_cases hlt2 : p < 60
      · have hst : mc o.xs 0 (p + 1) = mc o.xs 0 p + if (atP o.xs (0 + (p : Int))).isSome = true then 1 else 0 := rfl
        rw [Int.zero_add] at hst
        have hsg := seenL_get o.xs hlt2
        have hcp := code_pos hlow p
        by_cases hs0 : atP o.xs p = none
        · have hz0 : Cof.get (seenL o.xs) p = 0 := hsg.trans (hcp.2.2.2 hs0)
          rw [hs0] at hst
          have hst : mc o.xs 0 (p + 1) = mc o.xs 0 p + 0 := hst
          repeat' (first | (refine XL_id ?_; first | refine XL_nil ?_ | (refine XG_load ?_; refine XL_elo tt_ok 1 rfl rfl rfl (by omega) (by omega) rfl rfl rfl rfl ?_) | (refine XG_idx ?_; refine XL_idxa tt_ok rfl rfl rfl rfl rfl (by omega) (by omega) rfl ?_) | (refine XL_op tt_ok rfl rfl ?_; try (first | refine XL_int (wrap_i64 (by omega) (by omega)) ?_ | refine XL_dec_t (by omega) ?_ | refine XL_dec_f (by omega) ?_))) | (refine X_id ?_; first | refine X_seq ?_ | refine X_region ?_ | refine X_skip ?_ | refine X_block ?_ | refine X_cond_t rfl ?_ | refine X_cond_f rfl ?_) | (refine Y_id ?_; first | refine Y_then ?_ | refine Y_block_normal ?_))
          all_goals first
            | exact Y_again (p + 1, v) fun _ _ hf hs => ⟨⟨by show p + 1 ≤ 60; omega, by show v = mc o.xs 0 (p + 1); omega⟩, by show 60 - (p + 1) < 60 - p; omega, hf.sub (by (repeat' (first | exact trivial | refine And.intro rfl ?_)); done), hs.imp fun h hs => stars_only [0, 0] rfl h hs⟩
            | skip
          
        · have hz0 : Cof.get (seenL o.xs) p ≠ 0 := fun h => hs0 (hcp.2.2.1 (hsg.symm.trans h))
          rw [if_pos (by cases hx : atP o.xs p with | none => exact absurd hx hs0 | some _ => rfl)] at hst
          repeat' (first | (refine XL_id ?_; first | refine XL_nil ?_ | (refine XG_load ?_; refine XL_elo tt_ok 1 rfl rfl rfl (by omega) (by omega) rfl rfl rfl rfl ?_) | (refine XG_idx ?_; refine XL_idxa tt_ok rfl rfl rfl rfl rfl (by omega) (by omega) rfl ?_) | (refine XL_op tt_ok rfl rfl ?_; try (first | refine XL_int (wrap_i64 (by omega) (by omega)) ?_ | refine XL_dec_t (by omega) ?_))) | (refine X_id ?_; first | refine X_seq ?_ | refine X_region ?_ | refine X_skip ?_ | refine X_block ?_ | refine X_cond_t rfl ?_) | (refine Y_id ?_; first | refine Y_then ?_ | refine Y_block_normal ?_))
          all_goals first
            | exact Y_again (p + 1, v + 1) fun _ _ hf hs => ⟨⟨by show p + 1 ≤ 60; omega, by show v + 1 = mc o.xs 0 (p + 1); omega⟩, by show 60 - (p + 1) < 60 - p; omega, hf.sub (by (repeat' (first | exact trivial | refine And.intro rfl ?_)); done), hs.imp fun h hs => stars_only [0, 0] rfl h hs⟩
            | skip
          
      · obtain rfl : p = 60 := by omega
        have hpg := pagesOf_spec o.A o.m o.c o.xs (by omega) hin
        rw [low_pages hlow] at hpg
        repeat' (first | (refine XL_id ?_; first | refine XL_nil ?_ | refine XL_guard_yes rfl rfl rfl ?_ | (refine XG_call ?_; refine XL_fn hpg rfl rfl (fun g hg hL => (by exact rd_at 0 rfl hL)) ?_) | (refine XL_op tt_ok rfl rfl ?_; try (first | refine XL_dec_t (by omega) ?_ | refine XL_dec_f (by omega) ?_))) | (refine X_id ?_; first | refine X_seq ?_ | refine X_region ?_ | refine X_ret ?_ | refine X_exit ?_ | refine X_cond_f rfl ?_) | (refine Y_id ?_; first | refine Y_then ?_ | refine Y_then_exit ?_ | refine Y_block_hit ?_))
        all_goals first
          | exact Y_fn1 rfl rfl rfl
          | skip
        )
end Go.Proofs.Ytpkffgbcebjhaaa
