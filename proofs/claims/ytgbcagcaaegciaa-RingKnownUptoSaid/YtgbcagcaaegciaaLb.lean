/- Walk of works; the law RingPlays. -/
import Derived.Test.YtgbcagcaaegciaaLa
set_option linter.unusedVariables false
namespace Go.Proofs.Ytgbcagcaaegciaa
open Go.RowKit Go.Cof

theorem addC_spec (p : Nat) (ys zs : List Int) (id e : Int) (he : addE ys id = e) (hz : addT ys id = zs) : Ctr Try.prog 10 [ptr p, iV id] (fun _ => True) [isRing p ys] (fun v L => v = iV e ∧ L = [isRing p zs]) := by
  subst he hz
  exact add_spec p ys id
theorem three_spec : Ctr Try.prog 22 [] (fun _ => True) [] (fun v L => ∃ p, v = ptr p ∧ L = [isRing p [1, 2, 3]]) := by
  refine Ctr.intro Try.func22 rfl rfl (by decide +kernel) fun F hpre => ?_
  repeat' (first | (refine XL_id ?_; first | refine XL_nil ?_ | (refine XG_call ?_; first | (refine XL_callK [] new_spec rfl rfl (fun _ => rfl) (fun _ _ _ => trivial) (fun u L hv => ?_); obtain ⟨p, rfl, rfl⟩ := hv) | refine XL_callE [0] (addC_spec _ [] [1] 1 0 (by decide) (by decide)) rfl rfl rfl (fun _ _ _ => trivial) ?_ | refine XL_callE [0] (addC_spec _ [1] [1, 2] 2 0 (by decide) (by decide)) rfl rfl rfl (fun _ _ _ => trivial) ?_ | refine XL_callE [0] (addC_spec _ [1, 2] [1, 2, 3] 3 0 (by decide) (by decide)) rfl rfl rfl (fun _ _ _ => trivial) ?_) | (refine XL_op tt_ok rfl rfl ?_; try (first | refine XL_int (wrap_i64 (by omega) (by omega)) ?_ | refine XL_dec_t (by omega) ?_ | refine XL_dec_f (by omega) ?_))) | (refine X_id ?_; first | refine X_unroll 3 ?_ | refine X_seq ?_ | (refine X_regionN (by repeat' (first | exact .nil | apply NL.cons)) ?_) | refine X_skip ?_ | refine X_ret ?_ | refine X_exit ?_ | refine X_block ?_ | refine X_cond_t rfl ?_ | refine X_cond_f rfl ?_) | (refine Y_id ?_; first | refine Y_unroll ?_ | refine Y_then ?_ | refine Y_then_exit ?_ | refine Y_block_hit ?_ | refine Y_block_normal ?_))
  all_goals first
    | exact Y_ret1 rfl rfl (fun _ h => h) ⟨_, rfl, rfl⟩
    | skip
  
theorem nextN_is (p : Nat) (ys : List Int) (pin : Int) (x : Int × Nat × Int) (zs : List Int) (h : nextC false pin ys = (x, zs, ())) : Ctr Try.prog 18 [ptr p, iV pin, .func (.func 23) #[] #[]] (fun _ => True) [isRing p ys] (fun v L => v = nextV x ∧ L = [isRing p zs]) := by
  have := nextN_spec p ys pin
  rw [h] at this
  exact this
theorem nextE_is (p : Nat) (ys : List Int) (pin : Int) (x : Int × Nat × Int) (zs : List Int) (h : nextC true pin ys = (x, zs, ())) : Ctr Try.prog 18 [ptr p, iV pin, .func (.func 24) #[] #[]] (fun _ => True) [isRing p ys] (fun v L => v = nextV x ∧ L = [isRing p zs]) := by
  have := nextE_spec p ys pin
  rw [h] at this
  exact this
theorem removeC_spec (p : Nat) (ys zs : List Int) (id e : Int) (he : remE ys id = e) (hz : rmI id ys = zs) : Ctr Try.prog 20 [ptr p, iV id] (fun _ => True) [isRing p ys] (fun v L => v = iV e ∧ L = [isRing p zs]) := by
  subst he hz
  exact remove_spec p ys id
theorem eqC_spec (A B : Option Addr) (m c m' c' : Nat) (xs ys : List Int) (hm : m ≤ 9223372036854775807) (hm' : m' ≤ 9223372036854775807) (h : xs = ys) : FnC Try.prog 14 [.slice A m c, .slice B m' c'] (fun h => rdS encN h A m xs ∧ rdS encN h B m' ys) (.bool true) := by
  have := eqInts_spec A B m c m' c' xs ys hm hm'
  rw [decide_eq_true h] at this
  exact this
set_option maxHeartbeats 8000000 in
theorem works_spec : FnC Try.prog 16 [] (fun _ => True) (.bool true) := by
  have hEq := fun A c B => eqC_spec A B 2 c 2 2 [3, 1] [3, 1] (by decide) (by decide) rfl
  refine Ctr.intro Try.func16 rfl rfl (by decide +kernel) fun F hpre => ?_
  repeat' (first | (refine XL_id ?_; first | refine XL_nil ?_ | refine XL_guard_yes rfl rfl rfl ?_ | (refine XG_call ?_; first | (refine XL_callK [] three_spec rfl rfl (fun _ => rfl) (fun _ _ _ => trivial) (fun u L hv => ?_); obtain ⟨p, rfl, rfl⟩ := hv) | refine XL_callE [0] (nextN_is _ [1, 2, 3] (-1) (1, 1, 0) [2, 3, 1] (by decide)) rfl rfl rfl (fun _ _ _ => trivial) ?_ | refine XL_callE [0] (nextN_is _ [2, 3, 1] 2 (3, 2, 0) [1, 2, 3] (by decide)) rfl rfl rfl (fun _ _ _ => trivial) ?_ | refine XL_callE [0] (nextE_is _ [1, 2, 3] (-1) (0, 7, 190) [2, 3, 1] (by decide)) rfl rfl rfl (fun _ _ _ => trivial) ?_ | refine XL_callE [0] (removeC_spec _ [2, 3, 1] [3, 1] 2 0 (by decide) (by decide)) rfl rfl rfl (fun _ _ _ => trivial) ?_ | (refine XL_callK [0] (list_spec _ [3, 1]) rfl rfl (fun _ => rfl) (fun _ _ _ => trivial) (fun u L hv => ?_); obtain ⟨A2, c2, rfl, rfl⟩ := hv) | refine XL_fn (hEq _ _ _) rfl rfl (fun g hg hL => ⟨rd_at 1 rfl hL, blk_rdS (blk_at 0 rfl hL) rfl rfl⟩) ?_) | (refine XG_lit ?_; (refine XL_lit tt_ok rfl rfl rfl rfl rfl rfl rfl rfl rfl (fun _ => rfl) (fun b => ?_); refine XL_nB (by repeat' (first | exact .nil | apply NL.cons)) ?_)) | (refine XL_op tt_ok rfl rfl ?_; try (first | refine XL_dec_t (by omega) ?_ | refine XL_dec_t (by decide +kernel) ?_))) | (refine X_id ?_; first | refine X_seq ?_ | (refine X_regionN (by repeat' (first | exact .nil | apply NL.cons)) ?_) | refine X_ret ?_) | (refine Y_id ?_; refine Y_then ?_))
  all_goals first
    | exact Y_fn1 rfl rfl rfl
    | skip
  
def encDo : Enc Do := ⟨doC, 4, fun _ => rfl, by decide, fun x u hu => by simp at hu; rcases hu with rfl | rfl | rfl | rfl <;> rfl⟩
set_option maxRecDepth 100000 in
set_option maxHeartbeats 16000000 in
theorem ringPlays_walk (n : Int) (A : Option Addr) (m c : Nat) (l : List Do) (hn : -9223372036854775808 ≤ n ∧ n ≤ 9223372036854775807) (hm : m ≤ 9223372036854775807) (hl : ∀ x ∈ l, -9223372036854775808 ≤ x.k ∧ x.k ≤ 9223372036854775807) :
    FnC Try.prog 3 [iV n, .slice A m c] (fun h => rdS encDo h A m l ∧ ∀ x ∈ l, ∃ bs, rdS encB h x.B x.m bs) (.bool true) := by
  refine Ctr.intro Try.func3 rfl rfl (by decide +kernel) fun F hpre => ?_
  obtain ⟨r1, hbs⟩ := hpre
  have hlen := r1.1
  repeat' (first | (refine XL_id ?_; first | refine XL_nil ?_ | (refine XG_call ?_; first | (refine XL_callK [] new_spec rfl rfl (fun _ => rfl) (fun _ _ _ => trivial) (fun u L hv => ?_); obtain ⟨r, rfl, rfl⟩ := hv) | (refine XL_callK [] rnew_spec rfl rfl (fun _ => rfl) (fun _ _ _ => trivial) (fun u L hv => ?_); obtain ⟨s, rfl, rfl⟩ := hv) | refine XL_fn works_spec rfl rfl (fun _ _ _ => trivial) ?_) | (refine XL_op tt_ok rfl rfl ?_; try (refine XL_dec_t (by omega) ?_))) | (refine X_id ?_; first | refine X_cutD (c := .block 0 _) [1, 5, 6] (fun (ys : List Int) => []) (fun ys => [isRing r ys, isRef s ys]) (fun ys => YOk ys) rfl (X_block ?_) (fun ys hys => ?_) | refine X_cutD (c := .block 2 _) [] (fun (_ : Unit) => []) (fun _ => []) (fun _ => True) rfl (X_block ?_) (fun _ _ => ?_) | refine X_seq ?_ | (refine X_regionN (by repeat' (first | exact .nil | apply NL.cons)) ?_) | refine X_skip ?_ | refine X_ret ?_ | refine X_cond_f rfl ?_) | (refine Y_id ?_; refine Y_then ?_))
  · refine X_loopD2 [0, 1, 5, 6] (fun (i : Nat) (ys : List Int) => [(7, .int .i64 i)]) (fun _ ys => [isRing r ys, isRef s ys]) (fun i ys => i ≤ 40 ∧ YOk ys) (fun i _ => 40 - i) 0 [] rfl ⟨Nat.zero_le _, YOk.nil⟩ (by (repeat' (first | exact trivial | refine And.intro rfl ?_)); done) (fun h hs => stars_only [1, 0] rfl h hs) ?_
    intro i ys hi
    obtain ⟨hi, hok⟩ := hi
    by_cases hlt : (i : Int) < n ∧ i < 40
    · have hok2 := hok.add (2 * (i : Int))
      repeat' (first | (refine XL_id ?_; first | refine XL_nil ?_ | refine XL_guard_yes rfl rfl rfl ?_ | (refine XG_call ?_; first | refine XL_callE [0] (add_spec r ys (2 * (i : Int))) rfl rfl rfl (fun _ _ _ => trivial) ?_ | refine XL_callE [1] (radd_spec s ys (2 * (i : Int))) rfl rfl rfl (fun _ _ _ => trivial) ?_) | (refine XL_op tt_ok rfl rfl ?_; try (first | refine XL_int (wrap_i64 (by omega) (by omega)) ?_ | refine XL_dec_t (by omega) ?_ | refine XL_dec_f (by omega) ?_))) | (refine X_id ?_; first | refine X_seq ?_ | (refine X_regionN (by repeat' (first | exact .nil | apply NL.cons)) ?_) | refine X_skip ?_ | refine X_block ?_ | refine X_cond_t rfl ?_ | refine X_cond_f rfl ?_) | (refine Y_id ?_; first | refine Y_then ?_ | refine Y_block_normal ?_))
      all_goals first
        | exact Y_again (i + 1, addT ys (2 * (i : Int))) fun _ _ hf hs => ⟨⟨by show i + 1 ≤ 40; omega, hok2⟩, by show 40 - (i + 1) < 40 - i; omega, hf.sub (by (repeat' (first | exact trivial | refine And.intro rfl ?_)); done), hs.imp fun h hs => stars_only [1, 0] rfl h hs⟩
        | (exfalso; omega)
        | skip
      
    · repeat' (first | (refine XL_id ?_; first | refine XL_nil ?_ | refine XL_guard_yes rfl rfl rfl ?_ | refine XL_guard_no rfl rfl rfl rfl rfl ?_ | (refine XL_op tt_ok rfl rfl ?_; try (first | refine XL_dec_f (by omega) ?_ | refine XL_dec (fun _ => ?_) (fun _ => ?_)))) | (refine X_id ?_; first | refine X_seq ?_ | (refine X_regionN (by repeat' (first | exact .nil | apply NL.cons)) ?_) | refine X_exit ?_ | refine X_cond_f rfl ?_) | (refine Y_id ?_; first | refine Y_then ?_ | refine Y_then_exit ?_ | refine Y_block_hit ?_))
      all_goals first
        | exact Y_again ys fun _ _ hf hs => ⟨hok, hf.sub (by (repeat' (first | exact trivial | refine And.intro rfl ?_)); done), hs⟩
        | (exfalso; omega)
        | skip
      
  · refine X_loopD2 [1, 5, 6] (fun (i : Nat) (ys : List Int) => [(8, .int .i64 i)]) (fun _ ys => [isRing r ys, isRef s ys]) (fun i ys => i ≤ m ∧ YOk ys) (fun i _ => m - i) 0 ys rfl ⟨Nat.zero_le _, hys⟩ (by (repeat' (first | exact trivial | refine And.intro rfl ?_)); done) (fun h hs => hs) ?_
    intro i ys hi
    obtain ⟨hi, hok⟩ := hi
    by_cases hlt : i < m ∧ i < 150
    · have hmem := get_mem' (l := l) (i := (i : Int)) (by omega) (by omega)
      obtain ⟨bs, hb⟩ := hbs _ hmem
      have hdn := done_spec r s ys (Cof.get l i) bs (hl _ hmem)
      obtain ⟨zs, hz⟩ : ∃ zs, zs = stepR ys (Cof.get l i) bs := ⟨_, rfl⟩
      have hzok : YOk zs := by
        rw [hz]
        unfold stepR
        split
        · exact hok.add _
        · split
          · exact hok.rm _
          · exact nextF_ok _ _ _ hok _
      rw [← hz] at hdn
      have hzl := hzok.len
      have hEq := fun A c B c2 => eqC_spec A B zs.length c zs.length c2 zs zs (by omega) (by omega) rfl
      repeat' (first | (refine XL_id ?_; first | refine XL_nil ?_ | refine XL_guard_yes rfl rfl rfl ?_ | (refine XG_load ?_; refine XL_elW tt_ok rfl (by assumption) rfl (by omega) (by omega) rfl rfl rfl rfl ?_) | (refine XG_idx ?_; refine XL_idx tt_ok rfl rfl rfl rfl rfl (by assumption) (by omega) (by omega) rfl ?_) | (refine XG_call ?_; first | (refine XL_op tt_ok rfl rfl ?_) | refine XL_callE [0, 0] hdn rfl rfl rfl (fun g hg hL => hb.le hg) ?_ | (refine XL_callK [0] (list_spec _ zs) rfl rfl (fun _ => rfl) (fun _ _ _ => trivial) (fun u L hv => ?_); obtain ⟨A2, c2, rfl, rfl⟩ := hv) | (refine XL_callK [1] (list_spec _ zs) rfl rfl (fun _ => rfl) (fun _ _ _ => trivial) (fun u L hv => ?_); obtain ⟨A3, c3, rfl, rfl⟩ := hv) | (refine XL_callK [1] (rlist_spec _ zs) rfl rfl (fun _ => rfl) (fun _ _ _ => trivial) (fun u L hv => ?_); obtain ⟨A4, c4, rfl, rfl⟩ := hv) | (refine XL_callK [3] (rlist_spec _ zs) rfl rfl (fun _ => rfl) (fun _ _ _ => trivial) (fun u L hv => ?_); obtain ⟨A4, c4, rfl, rfl⟩ := hv) | refine XL_fn (hEq _ _ _ _) rfl rfl (fun g hg hL => ⟨(by first | exact rd_at 3 rfl hL | exact rd_at 4 rfl hL), (by exact rd_at 0 rfl hL)⟩) ?_) | (refine XL_op tt_ok rfl rfl ?_; try (first | refine XL_int (wrap_i64 (by omega) (by omega)) ?_ | refine XL_dec_t (by omega) ?_))) | (refine X_id ?_; first | refine X_cutD (c := .block 4 _) [1, 5, 6, 8, 10] (fun (_ : Unit) => []) (fun _ => [isRing r zs, isRef s zs, own encN A3 zs.length c3 zs]) (fun _ => True) rfl (X_block ?_) (fun _ _ => ?_) | refine X_seq ?_ | (refine X_regionN (by repeat' (first | exact .nil | apply NL.cons)) ?_) | refine X_skip ?_ | refine X_block ?_ | refine X_cond_t rfl ?_ | refine X_cond_f rfl ?_) | (refine Y_id ?_; first | refine Y_then ?_ | refine Y_block_normal ?_))
      · refine X_loopD2 [1, 5, 6, 8, 9, 10] (fun (k : Nat) (ws : List Int) => [(11, .int .i64 k)]) (fun _ ws => [own encN A2 zs.length c2 ws, isRing r zs, isRef s zs, own encN A3 zs.length c3 zs]) (fun k ws => k ≤ zs.length ∧ ws.length = zs.length) (fun k _ => zs.length - k) 0 zs rfl ⟨Nat.zero_le _, rfl⟩ (by (repeat' (first | exact trivial | refine And.intro rfl ?_)); done) (fun h hs => stars_only [4, 3, 1, 1] rfl h hs) ?_
        intro k ws hk
        obtain ⟨hk, hwl⟩ := hk
        by_cases hlt2 : k < zs.length
        · refine X_fact 0 rfl (fun _ o => own_some o (by omega)) fun hq2 => ?_
          obtain ⟨bq, rfl⟩ := hq2
          repeat' (first | (refine XL_id ?_; first | refine XL_nil ?_ | (refine XG_idx ?_; refine XL_idxl tt_ok rfl rfl rfl rfl rfl (by omega) (by omega) rfl ?_) | (refine XG_store ?_; (refine XL_put1 (o := k) tt_ok 0 (-1 : Int) rfl (by show some (Value.pointer (some (⟨bq, 0 + k * 1, none⟩ : Addr))) = some (Value.pointer (some ⟨bq, k, none⟩)); rw [Nat.zero_add, Nat.mul_one]) rfl rfl rfl rfl rfl (by omega) rfl ?_)) | (refine XL_op tt_ok rfl rfl ?_; try (first | refine XL_int (wrap_i64 (by omega) (by omega)) ?_ | refine XL_dec_t (by omega) ?_))) | (refine X_id ?_; first | refine X_seq ?_ | (refine X_regionN (by repeat' (first | exact .nil | apply NL.cons)) ?_) | refine X_skip ?_ | refine X_block ?_ | refine X_cond_t rfl ?_) | (refine Y_id ?_; first | refine Y_then ?_ | refine Y_block_normal ?_))
          all_goals first
            | exact Y_again (k + 1, ws.set k (-1)) fun _ _ hf hs => ⟨⟨by show k + 1 ≤ zs.length; omega, by rw [List.length_set]; exact hwl⟩, by show zs.length - (k + 1) < zs.length - k; omega, hf.sub (by (repeat' (first | exact trivial | refine And.intro rfl ?_)); done), hs⟩
            | (exfalso; omega)
            | skip
          
        · repeat' (first | (refine XL_id ?_; first | refine XL_nil ?_ | (refine XL_op tt_ok rfl rfl ?_; try (refine XL_dec_f (by omega) ?_))) | (refine X_id ?_; first | refine X_seq ?_ | (refine X_regionN (by repeat' (first | exact .nil | apply NL.cons)) ?_) | refine X_exit ?_ | refine X_cond_f rfl ?_) | (refine Y_id ?_; first | refine Y_then ?_ | refine Y_then_exit ?_ | refine Y_block_hit ?_))
          all_goals first
            | exact Y_again () fun _ _ hf hs => ⟨trivial, hf.sub (by (repeat' (first | exact trivial | refine And.intro rfl ?_)); done), hs.imp fun h hs => stars_only [1, 1, 1] rfl h hs⟩
            | (exfalso; omega)
            | skip
          
      all_goals first
        | exact Y_again (i + 1, zs) fun _ _ hf hs => ⟨⟨by show i + 1 ≤ m; omega, hzok⟩, by show m - (i + 1) < m - i; omega, hf.sub (by (repeat' (first | exact trivial | refine And.intro rfl ?_)); done), hs.imp fun h hs => stars_only [2, 1] rfl h hs⟩
        | (exfalso; omega)
        | skip
      
    · repeat' (first | (refine XL_id ?_; first | refine XL_nil ?_ | refine XL_guard_yes rfl rfl rfl ?_ | refine XL_guard_no rfl rfl rfl rfl rfl ?_ | (refine XL_op tt_ok rfl rfl ?_; try (first | refine XL_dec_f (by omega) ?_ | refine XL_dec (fun _ => ?_) (fun _ => ?_)))) | (refine X_id ?_; first | refine X_seq ?_ | (refine X_regionN (by repeat' (first | exact .nil | apply NL.cons)) ?_) | refine X_exit ?_ | refine X_cond_f rfl ?_) | (refine Y_id ?_; first | refine Y_then ?_ | refine Y_then_exit ?_ | refine Y_block_hit ?_))
      all_goals first
        | exact Y_again () fun _ _ hf hs => ⟨trivial, hf.sub (by (repeat' (exact trivial)); done), hs.imp fun _ _ => trivial⟩
        | (exfalso; omega)
        | skip
      
  · exact Y_fn1 rfl rfl rfl
  
end Go.Proofs.Ytgbcagcaaegciaa
