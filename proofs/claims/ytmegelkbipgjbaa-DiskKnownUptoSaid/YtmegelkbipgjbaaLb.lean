/- DiskPlays: write, read, done; the law walked. -/
import Derived.Test.YtmegelkbipgjbaaLa
import Derived.Test.YtmegelkbipgjbaaNa
set_option linter.unusedVariables false
namespace Go.Proofs.Ytmegelkbipgjbaa
open Go.RowKit Go.Cof

structure Dd where
  k : Int
  s : Int
  b : In Int
instance : Inhabited Dd := ⟨⟨0, 0, ⟨none, 0, 0, []⟩⟩⟩
def encDd : Enc Dd := ⟨fun x => [iV x.k, iV x.s, .slice x.b.A x.b.m x.b.c], 3, fun _ => rfl, by decide, fun x u hu => by simp at hu; rcases hu with rfl | rfl | rfl <;> rfl⟩
structure Dd.In (x : Dd) : Prop where
  k : -9223372036854775808 ≤ x.k ∧ x.k ≤ 9223372036854775807
  s : -9223372036854775808 ≤ x.s ∧ x.s ≤ 9223372036854775807
  bm : x.b.m ≤ 140737488351232
  bc : x.b.m ≤ x.b.c
abbrev W8 (i : Int) : Int := IntKind.u8.wrap (200 + i)
def wantF (xs : List Int) (i : Nat) : Int := if i < xs.length then Cof.get xs (i : Int) else W8 (i : Int)
theorem getN_set {xs : List Int} {k j : Nat} {v : Int} (h : k < xs.length) : Cof.get (xs.set (k : Int).toNat v) (j : Int) = if k = j then v else Cof.get xs (j : Int) := by
  rw [show (k : Int).toNat = k from rfl, get_set h]
theorem take_eq {ys xs : List Int} (hl : xs.length ≤ ys.length) (h : ∀ j : Nat, j < xs.length → Cof.get ys (j : Int) = Cof.get xs (j : Int)) : ys.take xs.length = xs := by
  refine get_ext (by rw [List.length_take]; omega) fun j hj => ?_
  have hj' : j < xs.length := by rw [List.length_take] at hj; omega
  rw [← h j hj']
  rw [get_getElem hj, get_getElem (by omega), List.getElem_take]
theorem er_eq {p q : Option Nat} (h : p.isSome = q.isSome) (e : Int) : er q e = er p e := by unfold er; rw [h]
set_option maxRecDepth 100000 in
set_option maxHeartbeats 8000000 in
theorem writeL_spec (p q : Option Nat) (hpq : p.isSome = q.isSome) (n : Nat) (s : List (List Int)) (k sl : Int) (A : Option Addr) (m c : Nat) (xs : List Int) (hm : m ≤ 140737488351232) (hmc : m ≤ c) :
    Ctr Try.prog 24 [ptrO p, ptrO q, .agg #[iV k, iV sl, .slice A m c]] (fun h => rdS encU h A m xs) [isDkO p n s, isRfO q n s] (fun v L => v = .bool true ∧ L = [isDkO p n (wrS n sl xs s), isRfO q n (wrS n sl xs s)]) := by
  have hqw := rwriteO q n s sl A m c xs hm
  rw [er_eq hpq] at hqw
  obtain ⟨E, hE⟩ : ∃ E, er p (wrE n sl xs) = E := ⟨_, rfl⟩
  rw [hE] at hqw
  refine Ctr.intro Try.func24 rfl rfl (by decide +kernel) fun F hpre => ?_
  have r1 : rdS encU F.heap A m xs := hpre
  have hl := r1.1
  have eN : ((m : Int) + 20).toNat = m + 20 := by omega
  repeat' (first | (refine XL_id ?_; first | refine XL_nil ?_ | (refine XG_box ?_; (refine XL_box rfl (fun _ => rfl) (fun bx => ?_); refine XL_nB (by repeat' (first | exact .nil | apply NL.cons)) ?_)) | (refine XG_load ?_; refine XL_load tt_ok 0 rfl rfl rfl rfl rfl rfl ?_) | (refine XG_make ?_; (refine XL_make encU (0 : Int) tt_ok rfl rfl rfl rfl rfl rfl rfl rfl (by omega) (by omega) (by show (1 : Int) * _ ≤ _; omega) (by omega) (fun _ => rfl) (fun g => ?_); rw [eN])) | (refine XL_op tt_ok rfl rfl ?_; try (refine XL_int (wrap_i64 (by omega) (by omega)) ?_))) | (refine X_id ?_; first | refine X_block (id := 0) (hold ?_) | refine X_seq ?_ | (refine X_regionN (by repeat' (first | exact .nil | apply NL.cons)) ?_)) | (refine Y_id ?_; refine Y_then ?_))
  intro _
  refine X_loopD2 [0, 1, 5, 7] (fun (i : Nat) (ys : List Int) => [(8, .int .i64 i)]) (fun i ys => [own encU (some ⟨g, 0, none⟩) (m + 20) (m + 20) ys, blk bx [iV k, iV sl, .slice A m c] 33, isDkO p n s, isRfO q n s]) (fun i ys => i ≤ m + 20 ∧ ys.length = m + 20 ∧ ∀ j : Nat, j < i → Cof.get ys (j : Int) = wantF xs j) (fun i _ => m + 20 - i) 0 (List.replicate (m + 20) 0) rfl ⟨Nat.zero_le _, List.length_replicate, fun j hj => by omega⟩ (by (repeat' (first | exact trivial | refine And.intro rfl ?_)); done) (fun h hs => hs) ?_
  intro i ys hi
  obtain ⟨hi, hyl, hys⟩ := hi
  by_cases hlt : i < m + 20
  · by_cases him : i < m
    · repeat' (first | (refine XL_id ?_; first | refine XL_nil ?_ | (refine XG_load ?_; first | refine XL_load tt_ok 1 rfl rfl rfl rfl rfl rfl ?_ | refine XL_el tt_ok rfl (by assumption) rfl (by omega) (by omega) rfl rfl rfl rfl ?_) | (refine XG_idx ?_; first | refine XL_idx tt_ok rfl rfl rfl rfl rfl (by assumption) (by omega) (by omega) rfl ?_ | refine XL_idxo tt_ok 0 rfl rfl rfl rfl rfl rfl (by omega) (by omega) rfl ?_) | (refine XG_store ?_; refine XL_putO tt_ok 0 (_ : Int) rfl rfl rfl rfl rfl rfl rfl (by omega) rfl ?_) | (refine XL_op tt_ok rfl rfl ?_; try (first | refine XL_int (wrap_i64 (by omega) (by omega)) ?_ | refine XL_dec_t (by omega) ?_))) | (refine X_id ?_; first | refine X_seq ?_ | (refine X_regionN (by repeat' (first | exact .nil | apply NL.cons)) ?_) | refine X_skip ?_ | refine X_block ?_ | refine X_cond_t rfl ?_) | (refine Y_id ?_; first | refine Y_then ?_ | refine Y_block_normal ?_))
      all_goals first
        | exact Y_again (i + 1, (ys.set (i : Int).toNat (W8 i)).set (i : Int).toNat (Cof.get xs (i : Int))) fun _ _ hf hs => ⟨⟨hlt, by show ((ys.set (i : Int).toNat (W8 i)).set (i : Int).toNat (Cof.get xs (i : Int))).length = m + 20; rw [List.length_set, List.length_set]; exact hyl, fun j hj => by
            replace hj : j < i + 1 := hj
            show Cof.get ((ys.set (i : Int).toNat (W8 i)).set (i : Int).toNat (Cof.get xs (i : Int))) (j : Int) = _
            rw [getN_set (by rw [List.length_set]; omega), getN_set (by omega)]
            by_cases e : i = j
            · subst e; rw [if_pos rfl]; unfold wantF; rw [if_pos (by omega)]
            · rw [if_neg e, if_neg e]; exact hys j (by omega)⟩, by show m + 20 - (i + 1) < m + 20 - i; omega, hf.sub (by (repeat' (first | exact trivial | refine And.intro rfl ?_)); done), hs⟩
        | (exfalso; omega)
        | skip
      
    · repeat' (first | (refine XL_id ?_; first | refine XL_nil ?_ | (refine XG_load ?_; refine XL_load tt_ok 1 rfl rfl rfl rfl rfl rfl ?_) | (refine XG_idx ?_; refine XL_idxo tt_ok 0 rfl rfl rfl rfl rfl rfl (by omega) (by omega) rfl ?_) | (refine XG_store ?_; refine XL_putO tt_ok 0 (_ : Int) rfl rfl rfl rfl rfl rfl rfl (by omega) rfl ?_) | (refine XL_op tt_ok rfl rfl ?_; try (first | refine XL_int (wrap_i64 (by omega) (by omega)) ?_ | refine XL_dec_t (by omega) ?_ | refine XL_dec_f (by omega) ?_))) | (refine X_id ?_; first | refine X_seq ?_ | (refine X_regionN (by repeat' (first | exact .nil | apply NL.cons)) ?_) | refine X_skip ?_ | refine X_block ?_ | refine X_cond_t rfl ?_ | refine X_cond_f rfl ?_) | (refine Y_id ?_; first | refine Y_then ?_ | refine Y_block_normal ?_))
      all_goals first
        | exact Y_again (i + 1, (ys.set (i : Int).toNat (W8 i))) fun _ _ hf hs => ⟨⟨hlt, by show (ys.set (i : Int).toNat (W8 i)).length = m + 20; rw [List.length_set]; exact hyl, fun j hj => by
            replace hj : j < i + 1 := hj
            show Cof.get (ys.set (i : Int).toNat (W8 i)) (j : Int) = _
            rw [getN_set (by omega)]
            by_cases e : i = j
            · subst e; rw [if_pos rfl]; unfold wantF; rw [if_neg (by omega)]
            · rw [if_neg e]; exact hys j (by omega)⟩, by show m + 20 - (i + 1) < m + 20 - i; omega, hf.sub (by (repeat' (first | exact trivial | refine And.intro rfl ?_)); done), hs⟩
        | (exfalso; omega)
        | skip
      
  · obtain rfl : i = m + 20 := by omega
    have htk : ys.take m = xs := by
      have := take_eq (ys := ys) (xs := xs) (by omega) fun j hj => by rw [hys j (by omega)]; unfold wantF; rw [if_pos hj]
      rw [← hl] at this; exact this
    have hpw := fun (b : Nat) (A' : Option Addr) (m' c' : Nat) (hA : A' = some ⟨b, 0, none⟩) => pwriteO p n s sl A' m' c' xs (fun _ => ⟨b, hA⟩)
    rw [hE] at hpw
    repeat' (first | (refine XL_id ?_; first | refine XL_nil ?_ | (refine XG_load ?_; refine XL_load tt_ok 3 rfl rfl rfl rfl rfl rfl ?_) | (refine XG_call ?_; first | (refine XL_op tt_ok rfl rfl ?_) | (refine XL_callE [1] (hpw g _ _ _ rfl) rfl rfl rfl (fun h hg hL => by have r2 := (rd_at 0 rfl hL).take m (by omega); rw [htk] at r2; exact r2) ?_) | refine XL_callE [2] hqw rfl rfl rfl (fun h hg hL => r1.le hg) ?_) | (refine XL_op tt_ok rfl rfl ?_; try (refine XL_dec_f (by omega) ?_))) | (refine XD_id ?_; first | (refine XD_thaw thaw ?_; refine XD_nil ?_) | (refine XD_id ?_; (first | (refine XD_uL rfl ?_; refine XD_s rfl rfl rfl (XV_load tt_ok rfl (blk_at 0 rfl hM) rfl rfl rfl) rfl ?_) | (refine XD_u rfl rfl ?_; first | refine XD_s rfl rfl rfl (XV_op tt_ok rfl) rfl ?_ | refine XD_s rfl rfl rfl (XV_slicel tt_ok rfl rfl rfl rfl (.hi (by omega) (by omega)) (by omega) rfl rfl rfl) rfl ?_))) | refine XD_m rfl rfl ?_) | (refine X_id ?_; first | (refine X_drawS (id := 8) [0, 1, 2, 3, 4, 5, 6, 7, 8, 9] (fun | 8 => .m | _ => .s) 8 (by (repeat apply Split.blk); apply Split.keep; (repeat apply Split.blk); apply Split.keep; (repeat apply Split.blk); apply Split.keep; repeat' (exact Split.nil)) mixed (by decide +kernel) ?_; intro G hFG hM thaw; show XD _ _ _ _ _ _ [0, 1, 2, 3, 4, 5, 6, 7, 8, 9] _ _ _) | refine X_block (id := 2) (hold ?_) | refine X_seq ?_ | (refine X_regionN (by repeat' (first | exact .nil | apply NL.cons)) ?_) | refine X_skip ?_ | refine X_exit ?_ | refine X_cond_f rfl ?_) | (refine Y_id ?_; first | refine Y_then ?_ | refine Y_then_exit ?_ | refine Y_block_hit ?_ | refine Y_m ?_))
    all_goals first
      | (exfalso; omega)
      | skip
    intro _
    refine X_loopD2 [5, 7] (fun (i : Nat) (zs : List Int) => [(10, .int .i64 i)]) (fun i zs => [own encU (some ⟨g, 0, none⟩) (m + 20) (m + 20) zs, isRfO q n (wrS n sl xs s), isDkO p n (wrS n sl xs s), blk bx [iV k, iV sl, .slice A m c] 33]) (fun i zs => i ≤ m + 20 ∧ zs.length = m + 20 ∧ ∀ j : Nat, i ≤ j → j < m + 20 → Cof.get zs (j : Int) = wantF xs j) (fun i _ => m + 20 - i) 0 ys rfl ⟨Nat.zero_le _, hyl, fun j _ hj => hys j hj⟩ (by (repeat' (first | exact trivial | refine And.intro rfl ?_)); done) (fun h hs => stars_take [2, 0, 0] rfl hs) ?_
    intro i zs hi2
    obtain ⟨hi2, hzl, hzs⟩ := hi2
    by_cases hlt2 : i < m + 20
    · have hz := hzs i (Nat.le_refl _) hlt2
      have hnx : ∀ (v : Int) (j : Nat), i + 1 ≤ j → j < m + 20 → Cof.get (zs.set (i : Int).toNat v) (j : Int) = wantF xs j := fun v j h1 h2 => by
        rw [getN_set (by omega), if_neg (by omega)]
        exact hzs j (by omega) h2
      by_cases him : i < m
      · replace hz : Cof.get zs (i : Int) = Cof.get xs (i : Int) := by rw [hz]; exact if_pos (by omega)
        repeat' (first | (refine XL_id ?_; first | refine XL_nil ?_ | (refine XG_load ?_; first | refine XL_load tt_ok 3 rfl rfl rfl rfl rfl rfl ?_ | refine XL_el tt_ok rfl (by assumption) rfl (by omega) (by omega) rfl rfl rfl rfl ?_ | refine XL_elo tt_ok 0 rfl rfl rfl (by omega) (by omega) rfl rfl rfl rfl ?_) | (refine XG_idx ?_; first | refine XL_idx tt_ok rfl rfl rfl rfl rfl (by assumption) (by omega) (by omega) rfl ?_ | refine XL_idxo tt_ok 0 rfl rfl rfl rfl rfl rfl (by omega) (by omega) rfl ?_) | (refine XG_store ?_; refine XL_putO tt_ok 0 (_ : Int) rfl rfl rfl rfl rfl rfl rfl (by omega) rfl ?_) | (refine XL_op tt_ok rfl rfl ?_; try (first | refine XL_int (wrap_i64 (by omega) (by omega)) ?_ | refine XL_dec_t (by omega) ?_ | refine XL_dec_f (by omega) ?_))) | (refine X_id ?_; first | refine X_seq ?_ | (refine X_regionN (by repeat' (first | exact .nil | apply NL.cons)) ?_) | refine X_skip ?_ | refine X_block ?_ | refine X_cond_t rfl ?_ | refine X_cond_f rfl ?_) | (refine Y_id ?_; first | refine Y_then ?_ | refine Y_block_normal ?_))
        all_goals first
          | exact Y_again (i + 1, zs.set (i : Int).toNat _) fun _ _ hf hs => ⟨⟨hlt2, by show (zs.set (i : Int).toNat _).length = m + 20; rw [List.length_set]; exact hzl, hnx _⟩, by show m + 20 - (i + 1) < m + 20 - i; omega, hf.sub (by (repeat' (first | exact trivial | refine And.intro rfl ?_)); done), hs⟩
          | (exfalso; omega)
          | skip
        
      · replace hz : Cof.get zs (i : Int) = IntKind.u8.wrap (200 + (i : Int)) := by rw [hz]; exact if_neg (by omega)
        repeat' (first | (refine XL_id ?_; first | refine XL_nil ?_ | (refine XG_load ?_; first | refine XL_load tt_ok 3 rfl rfl rfl rfl rfl rfl ?_ | refine XL_elo tt_ok 0 rfl rfl rfl (by omega) (by omega) rfl rfl rfl rfl ?_) | (refine XG_idx ?_; refine XL_idxo tt_ok 0 rfl rfl rfl rfl rfl rfl (by omega) (by omega) rfl ?_) | (refine XG_store ?_; refine XL_putO tt_ok 0 (_ : Int) rfl rfl rfl rfl rfl rfl rfl (by omega) rfl ?_) | (refine XL_op tt_ok rfl rfl ?_; try (first | refine XL_int (wrap_i64 (by omega) (by omega)) ?_ | refine XL_dec_t (by omega) ?_ | refine XL_dec_f (by omega) ?_))) | (refine X_id ?_; first | refine X_seq ?_ | (refine X_regionN (by repeat' (first | exact .nil | apply NL.cons)) ?_) | refine X_skip ?_ | refine X_block ?_ | refine X_cond_t rfl ?_ | refine X_cond_f rfl ?_) | (refine Y_id ?_; first | refine Y_then ?_ | refine Y_block_normal ?_))
        all_goals first
          | exact Y_again (i + 1, zs.set (i : Int).toNat _) fun _ _ hf hs => ⟨⟨hlt2, by show (zs.set (i : Int).toNat _).length = m + 20; rw [List.length_set]; exact hzl, hnx _⟩, by show m + 20 - (i + 1) < m + 20 - i; omega, hf.sub (by (repeat' (first | exact trivial | refine And.intro rfl ?_)); done), hs⟩
          | (exfalso; omega)
          | skip
        
    · repeat' (first | (refine XL_id ?_; first | refine XL_nil ?_ | (refine XL_op tt_ok rfl rfl ?_; try (refine XL_dec_f (by omega) ?_))) | (refine X_id ?_; first | refine X_seq ?_ | (refine X_regionN (by repeat' (first | exact .nil | apply NL.cons)) ?_) | refine X_ret ?_ | refine X_exit ?_ | refine X_cond_f rfl ?_) | (refine Y_id ?_; first | refine Y_then ?_ | refine Y_then_exit ?_ | refine Y_block_hit ?_))
      all_goals first
        | exact Y_ret1 rfl rfl (stars_only [2, 1] rfl) ⟨rfl, rfl⟩
        | (exfalso; omega)
        | skip
      
theorem rdX_len {p : Option Nat} {n : Nat} {k : Int} {s : List (List Int)} {h : Hp} (hd : isDkO p n s h) : (rdX p n k s).length ≤ 256 := by
  unfold rdX
  split
  · rename_i g
    cases p with
    | none => cases g.1
    | some p =>
      obtain ⟨mb, hok, _⟩ := hd
      obtain ⟨h0, h1, hne⟩ := rdE_in g.2
      rw [hok.page h0 h1 hne]; exact Nat.le_refl _
  · exact Nat.zero_le _
set_option maxRecDepth 100000 in
set_option maxHeartbeats 8000000 in
theorem readL_spec (p q : Option Nat) (hpq : p.isSome = q.isSome) (n : Nat) (s : List (List Int)) (k : Int) :
    Ctr Try.prog 21 [ptrO p, ptrO q, iV k] (fun _ => True) [isDkO p n s, isRfO q n s] (fun v L => v = .bool true ∧ L = [isDkO p n s, isRfO q n s]) := by
  have hqr := rreadO q n s k
  have hpr := preadO p n s k
  have hx : rdX q n k s = rdX p n k s := by unfold rdX; rw [hpq]
  rw [er_eq hpq, hx] at hqr
  obtain ⟨E, hE⟩ : ∃ E, er p (rdE n k s) = E := ⟨_, rfl⟩
  obtain ⟨xs, hxs⟩ : ∃ xs, rdX p n k s = xs := ⟨_, rfl⟩
  rw [hE, hxs] at hqr hpr
  have hq := fun (A B : Option Addr) (m c m' c' : Nat) (h : m ≤ 9223372036854775807) (h' : m' ≤ 9223372036854775807) => eqB_spec A B m c m' c' xs xs h h'
  rw [decide_eq_true rfl] at hq
  refine Ctr.intro Try.func21 rfl rfl (by decide +kernel) fun F hpre => ?_
  refine X_fact 0 rfl (fun _ o => rdX_len (k := k) o) fun hN1 => ?_
  rw [hxs] at hN1
  obtain ⟨N, hN⟩ : ∃ N, xs.length = N := ⟨_, rfl⟩
  rw [hN] at hpr hqr hN1
  repeat' (first | (refine XL_id ?_; first | refine XL_nil ?_ | refine XL_guard_yes rfl rfl rfl ?_ | (refine XG_call ?_; first | (refine XL_callK [0] hpr rfl rfl (fun _ => rfl) (fun _ _ _ => trivial) (fun u L hv => ?_); obtain ⟨A1, c1, rfl, rfl⟩ := hv) | (refine XL_callK [2] hqr rfl rfl (fun _ => rfl) (fun _ _ _ => trivial) (fun u L hv => ?_); obtain ⟨A2, c2, rfl, rfl⟩ := hv) | refine XL_fn (hq _ _ _ _ _ _ (by omega) (by omega)) rfl rfl (fun g hg hL => ⟨rd_at 2 rfl hL, rd_at 0 rfl hL⟩) ?_) | (refine XL_op tt_ok rfl rfl ?_; try (refine XL_dec_f (by omega) ?_))) | (refine X_id ?_; first | refine X_block (id := 0) (hold ?_) | refine X_seq ?_ | (refine X_regionN (by repeat' (first | exact .nil | apply NL.cons)) ?_) | refine X_skip ?_ | refine X_cond_f rfl ?_) | (refine Y_id ?_; refine Y_then ?_))
  all_goals first
    | (exfalso; omega)
    | skip
  intro _
  refine X_loopD2 [0, 2, 7, 9, 10] (fun (i : Nat) (zs : List Int) => [(11, .int .i64 i)]) (fun i zs => [own encU A1 N c1 zs, own encU A2 N c2 xs, isDkO p n s, isRfO q n s]) (fun i _ => i ≤ N) (fun i _ => N - i) 0 xs rfl (Nat.zero_le _) (by (repeat' (first | exact trivial | refine And.intro rfl ?_)); done) (fun h hs => stars_take [2, 0, 1, 0] rfl hs) ?_
  intro i zs hi
  by_cases hlt : i < N
  · repeat' (first | (refine XL_id ?_; first | refine XL_nil ?_ | (refine XG_load ?_; refine XL_elo tt_ok 0 rfl rfl rfl (by omega) (by omega) rfl rfl rfl rfl ?_) | (refine XG_idx ?_; refine XL_idxo tt_ok 0 rfl rfl rfl rfl rfl rfl (by omega) (by omega) rfl ?_) | (refine XG_store ?_; refine XL_putO tt_ok 0 (_ : Int) rfl rfl rfl rfl rfl rfl rfl (by omega) rfl ?_) | (refine XL_op tt_ok rfl rfl ?_; try (first | refine XL_int (wrap_i64 (by omega) (by omega)) ?_ | refine XL_dec_t (by omega) ?_))) | (refine X_id ?_; first | refine X_seq ?_ | (refine X_regionN (by repeat' (first | exact .nil | apply NL.cons)) ?_) | refine X_skip ?_ | refine X_block ?_ | refine X_cond_t rfl ?_) | (refine Y_id ?_; first | refine Y_then ?_ | refine Y_block_normal ?_))
    all_goals first
      | exact Y_again (i + 1, zs.set (i : Int).toNat _) fun _ _ hf hs => ⟨hlt, by show N - (i + 1) < N - i; omega, hf.sub (by (repeat' (first | exact trivial | refine And.intro rfl ?_)); done), hs⟩
      | (exfalso; omega)
      | skip
    
  · repeat' (first | (refine XL_id ?_; first | refine XL_nil ?_ | (refine XL_op tt_ok rfl rfl ?_; try (refine XL_dec_f (by omega) ?_))) | (refine X_id ?_; first | refine X_block (id := 2) (hold ?_) | refine X_seq ?_ | (refine X_regionN (by repeat' (first | exact .nil | apply NL.cons)) ?_) | refine X_exit ?_ | refine X_cond_f rfl ?_) | (refine Y_id ?_; first | refine Y_then ?_ | refine Y_then_exit ?_ | refine Y_block_hit ?_))
    all_goals first
      | (exfalso; omega)
      | skip
    intro _
    refine X_loopD4 [0, 2, 9, 10] (fun (i : Nat) (A : Option Addr) (c : Nat) (zs : List Int) => [(12, .int .i64 i), (7, .slice A (N + i) c)]) (fun i A c zs => [own encU A (N + i) c zs, own encU A2 N c2 xs, isDkO p n s, isRfO q n s]) (fun i _ _ _ => i ≤ 300) (fun i _ _ _ => 300 - i) 0 A1 c1 zs rfl (Nat.zero_le _) (by (repeat' (first | exact trivial | refine And.intro rfl ?_)); done) (fun h hs => hs) ?_
    intro j A3 c3 zs3 hj
    replace hj : j ≤ 300 := hj
    by_cases hlt3 : j < 300
    · repeat' (first | (refine XL_id ?_; first | refine XL_nil ?_ | (refine XG_call ?_; (refine XL_app1 (E := encU) tt_ok 1 0 (7 : Int) rfl rfl rfl rfl rfl rfl rfl rfl rfl rfl rfl (by show (_ : Nat) * 1 ≤ _; omega) (by omega) (fun _ _ => rfl) (fun A4 c4 => ?_))) | (refine XG_lit ?_; (refine XL_lit tt_ok rfl rfl rfl rfl rfl rfl rfl rfl rfl (fun _ => rfl) (fun b => ?_); refine XL_nB (by repeat' (first | exact .nil | apply NL.cons)) ?_)) | (refine XL_op tt_ok rfl rfl ?_; try (first | refine XL_int (wrap_i64 (by omega) (by omega)) ?_ | refine XL_dec_t (by omega) ?_))) | (refine X_id ?_; first | refine X_seq ?_ | (refine X_regionN (by repeat' (first | exact .nil | apply NL.cons)) ?_) | refine X_skip ?_ | refine X_block ?_ | refine X_cond_t rfl ?_) | (refine Y_id ?_; first | refine Y_then ?_ | refine Y_block_normal ?_))
      all_goals first
        | exact Y_again (j + 1, A4, c4, zs3 ++ [7]) fun _ _ hf hs => ⟨by show j + 1 ≤ 300; omega, by show 300 - (j + 1) < 300 - j; omega, hf.sub (by (repeat' (first | exact trivial | refine And.intro rfl ?_)); done), hs.imp fun g hg => stars_only [1, 1, 1, 1] rfl g hg⟩
        | (exfalso; omega)
        | skip
      
    · repeat' (first | (refine XL_id ?_; first | refine XL_nil ?_ | refine XL_guard_yes rfl rfl rfl ?_ | (refine XG_call ?_; first | (refine XL_callK [2] hpr rfl rfl (fun _ => rfl) (fun _ _ _ => trivial) (fun u L hv => ?_); obtain ⟨A5, c5, rfl, rfl⟩ := hv) | refine XL_fn (hq _ _ _ _ _ _ (by omega) (by omega)) rfl rfl (fun g hg hL => ⟨rd_at 0 rfl hL, rd_at 3 rfl hL⟩) ?_) | (refine XL_op tt_ok rfl rfl ?_; try (first | refine XL_dec_t (by omega) ?_ | refine XL_dec_f (by omega) ?_))) | (refine X_id ?_; first | refine X_seq ?_ | (refine X_regionN (by repeat' (first | exact .nil | apply NL.cons)) ?_) | refine X_ret ?_ | refine X_exit ?_ | refine X_cond_f rfl ?_) | (refine Y_id ?_; first | refine Y_then ?_ | refine Y_then_exit ?_ | refine Y_block_hit ?_))
      all_goals first
        | exact Y_ret1 rfl rfl (stars_only [1, 3] rfl) ⟨rfl, rfl⟩
        | (exfalso; omega)
        | skip
      
set_option maxRecDepth 100000 in
set_option maxHeartbeats 8000000 in
theorem done_spec (p q : Option Nat) (hpq : p.isSome = q.isSome) (n : Nat) (s : List (List Int)) (x : Dd) (hx : x.In) :
    Ctr Try.prog 17 [ptrO p, ptrO q, .agg #[iV x.k, iV x.s, .slice x.b.A x.b.m x.b.c]] (fun h => rdS encU h x.b.A x.b.m x.b.xs) [isDkO p n s, isRfO q n s] (fun v L => ∃ s', v = .bool true ∧ L = [isDkO p n s', isRfO q n s']) := by
  have hk := kind_spec x.k 3 hx.k.1 hx.k.2 (by decide) (by decide)
  have hqe := reraseO q n s x.s
  have hpe := peraseO p n s x.s
  rw [er_eq hpq] at hqe
  obtain ⟨E, hE⟩ : ∃ E, er p (rdE n x.s s) = E := ⟨_, rfl⟩
  rw [hE] at hqe hpe
  have hk1 := Int.emod_nonneg x.k (show (3 : Int) ≠ 0 by decide)
  have hk2 := Int.emod_lt_of_pos x.k (show (0 : Int) < 3 by decide)
  obtain ⟨K, hK⟩ : ∃ K, x.k % 3 = K := ⟨_, rfl⟩
  rw [hK] at hk hk1 hk2
  refine Ctr.intro Try.func17 rfl rfl (by decide +kernel) fun F hpre => ?_
  by_cases h0 : K = 0
  · subst h0
    repeat' (first | (refine XL_id ?_; first | refine XL_nil ?_ | (refine XG_box ?_; (refine XL_box rfl (fun _ => rfl) (fun bx => ?_); refine XL_nB (by repeat' (first | exact .nil | apply NL.cons)) ?_)) | (refine XG_load ?_; first | refine XL_loadW tt_ok 0 rfl rfl rfl rfl rfl rfl ?_ | refine XL_load tt_ok 0 rfl rfl rfl rfl rfl rfl ?_) | (refine XG_call ?_; first | refine XL_fn hk rfl rfl (fun _ _ _ => trivial) ?_ | refine XL_callE [1, 1] (writeL_spec p q hpq n s x.k x.s x.b.A x.b.m x.b.c x.b.xs hx.bm hx.bc) rfl rfl rfl (fun g hg hL => hpre.le hg) ?_) | (refine XL_op tt_ok rfl rfl ?_; try (refine XL_dec_t (by omega) ?_))) | (refine X_id ?_; first | refine X_seq ?_ | (refine X_regionN (by repeat' (first | exact .nil | apply NL.cons)) ?_) | refine X_ret ?_ | refine X_block ?_ | refine X_cond_t rfl ?_) | (refine Y_id ?_; first | refine Y_then ?_ | refine Y_then_ret ?_ | refine Y_block_ret ?_))
    all_goals first
      | exact Y_ret1 rfl rfl (stars_only [0, 0] rfl) ⟨_, rfl, rfl⟩
      | (exfalso; omega)
      | skip
    
  · by_cases h1 : K = 1
    · subst h1
      repeat' (first | (refine XL_id ?_; first | refine XL_nil ?_ | (refine XG_box ?_; (refine XL_box rfl (fun _ => rfl) (fun bx => ?_); refine XL_nB (by repeat' (first | exact .nil | apply NL.cons)) ?_)) | (refine XG_load ?_; refine XL_load tt_ok 0 rfl rfl rfl rfl rfl rfl ?_) | (refine XG_call ?_; first | refine XL_fn hk rfl rfl (fun _ _ _ => trivial) ?_ | refine XL_callE [1, 1] (readL_spec p q hpq n s x.s) rfl rfl rfl (fun _ _ _ => trivial) ?_) | (refine XL_op tt_ok rfl rfl ?_; try (first | refine XL_dec_t (by omega) ?_ | refine XL_dec_f (by omega) ?_))) | (refine X_id ?_; first | refine X_seq ?_ | (refine X_regionN (by repeat' (first | exact .nil | apply NL.cons)) ?_) | refine X_ret ?_ | refine X_block ?_ | refine X_cond_t rfl ?_ | refine X_cond_f rfl ?_) | (refine Y_id ?_; first | refine Y_then ?_ | refine Y_then_ret ?_ | refine Y_block_ret ?_))
      all_goals first
        | exact Y_ret1 rfl rfl (stars_only [0, 0] rfl) ⟨_, rfl, rfl⟩
        | (exfalso; omega)
        | skip
      
    · obtain rfl : K = 2 := by omega
      repeat' (first | (refine XL_id ?_; first | refine XL_nil ?_ | (refine XG_box ?_; (refine XL_box rfl (fun _ => rfl) (fun bx => ?_); refine XL_nB (by repeat' (first | exact .nil | apply NL.cons)) ?_)) | (refine XG_load ?_; refine XL_load tt_ok 0 rfl rfl rfl rfl rfl rfl ?_) | (refine XG_call ?_; first | refine XL_fn hk rfl rfl (fun _ _ _ => trivial) ?_ | refine XL_callE [0] hpe rfl rfl rfl (fun _ _ _ => trivial) ?_ | refine XL_callE [1] hqe rfl rfl rfl (fun _ _ _ => trivial) ?_) | (refine XL_op tt_ok rfl rfl ?_; try (refine XL_dec_f (by omega) ?_))) | (refine XD_id ?_; first | (refine XD_thaw thaw ?_; refine XD_nil ?_) | (refine XD_id ?_; (first | (refine XD_uL rfl ?_; refine XD_s rfl rfl rfl (XV_load tt_ok rfl (blk_at 0 rfl hM) rfl rfl rfl) rfl ?_) | (refine XD_u rfl rfl ?_; refine XD_s rfl rfl rfl (XV_op tt_ok rfl) rfl ?_)); try (refine XD_dec_t (by omega) ?_)) | refine XD_m rfl rfl ?_) | (refine X_id ?_; first | (refine X_drawS (id := 6) [0, 1, 2, 4, 5, 6, 3, 7, 8, 9] (fun | 3 => .m | 7 => .m | _ => .s) 8 (by (repeat apply Split.blk); apply Split.keep; (repeat apply Split.blk); apply Split.keep; repeat' (exact Split.nil)) mixed (by decide +kernel) ?_; intro G hFG hM thaw; show XD _ _ _ _ _ _ [0, 1, 2, 4, 5, 6, 3, 7, 8, 9] _ _ _) | refine X_seq ?_ | (refine X_regionN (by repeat' (first | exact .nil | apply NL.cons)) ?_) | refine X_skip ?_ | refine X_ret ?_ | refine X_block ?_ | refine X_cond_f rfl ?_) | (refine Y_id ?_; first | refine Y_then ?_ | refine Y_block_normal ?_ | refine Y_m ?_))
      all_goals first
        | exact Y_ret1 rfl rfl (stars_only [1, 0] rfl) ⟨_, rfl, rfl⟩
        | exact Y_ret1 rfl rfl (stars_only [0, 0] rfl) ⟨_, rfl, rfl⟩
        | (exfalso; omega)
        | skip
      
end Go.Proofs.Ytmegelkbipgjbaa
