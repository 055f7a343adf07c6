/- The law FramesPlays, walked. -/
import Derived.Test.YtookjknlfkmemaaNb
set_option linter.unusedVariables false
namespace Go.Proofs.Ytookjknlfkmemaa
open Go.RowKit Go.Cof

theorem framesI_spec (p : Nat) (bs : List Int) : Ctr Try.prog 21 [.pointer (some ⟨p, 0, none⟩)] (fun _ => True) [isMem p bs] (fun v L => v = .int .i64 ((bs.length : Int) / 256) ∧ L = [isMem p bs]) := by
  refine Ctr.intro Try.func21 rfl rfl (by decide +kernel) fun F hpre => ?_
  refine X_openp 0 rfl (fun _ h => h) fun x hx => ?_
  have hl := hx.le
  have hN := hx.N
  have e : (x.n : Int) = (bs.length : Int) / 256 := by omega
  rw [← e]
  repeat' (first | (refine XL_id ?_; first | refine XL_nil ?_ | (refine XG_load ?_; refine XL_load tt_ok 0 rfl rfl rfl rfl rfl rfl ?_) | (refine XL_op tt_ok rfl rfl ?_)) | (refine X_id ?_; first | refine X_seq ?_ | (refine X_regionN (by repeat' (first | exact .nil | apply NL.cons)) ?_) | refine X_skip ?_ | refine X_ret ?_ | refine X_cond_f rfl ?_) | (refine Y_id ?_; refine Y_then ?_))
  exact Y_ret1 rfl rfl (stars_fin [0, 0, 0] rfl fun _ h => ⟨x, hx, h⟩) ⟨rfl, rfl⟩
structure DdsOk (h : Hp) (A : Option Addr) (m : Nat) (l : List Dd) : Prop where
  rd : rdS encDd h A m l
  sub : ∀ x ∈ l, rdS (encI .u8) h x.b.A x.b.m x.b.xs
set_option maxRecDepth 100000 in
set_option maxHeartbeats 16000000 in
theorem framesPlays_walk (n : Int) (A : Option Addr) (m c : Nat) (l : List Dd) (hn : -9223372036854775808 ≤ n ∧ n ≤ 9223372036854775807) (hm : m ≤ 9223372036854775807) (hl : ∀ x ∈ l, x.In) :
    FnC Try.prog 6 [.int .i64 n, .slice A m c] (fun h => DdsOk h A m l) (.bool true) := by
  refine Ctr.intro Try.func6 rfl rfl (by decide +kernel) fun F hpre => ?_
  have r1 : rdS encDd F.heap A m l := hpre.rd
  have hsub := hpre.sub
  have hlen := r1.1
  by_cases hnn : 1 ≤ n ∧ n ≤ 4096
  · have hn1 := new_ok n hnn.1 hnn.2
    have hn2 := rnew_ok n hnn.1 hnn.2
    have hz := Mem.zero (n := n.toNat) (by omega) (by omega)
    have hzl : (List.replicate (n.toNat * 256) (0 : Int)).length = n.toNat * 256 := List.length_replicate
    have hd0 : ((n.toNat * 256 : Nat) : Int) / 256 = n := by omega
    have hfi := fun p : Nat => framesI_spec p (List.replicate (n.toNat * 256) 0)
    rw [hzl, hd0] at hfi
    have hrf := fun p g : Nat => rframes_spec p g (n.toNat * 256) (by omega)
    rw [hd0] at hrf
    repeat' (first | (refine XL_id ?_; first | refine XL_nil ?_ | refine XL_guard_yes rfl rfl rfl ?_ | (refine XG_call ?_; first | (refine XL_callK [] hn1 rfl rfl (fun _ => rfl) (fun _ _ _ => trivial) (fun u L hv => ?_); obtain ⟨p, rfl, rfl⟩ := hv) | (refine XL_callK [] hn2 rfl rfl (fun _ => rfl) (fun _ _ _ => trivial) (fun u L hv => ?_); obtain ⟨⟨r, g⟩, rfl, rfl⟩ := hv) | refine XL_callE [2] (hfi _) rfl rfl rfl (fun _ _ _ => trivial) ?_ | (refine XL_fn (hrf _ _) rfl rfl (fun g hg hL => by exact blk_at 1 rfl hL) ?_)) | (refine XL_op tt_ok rfl rfl ?_; try (refine XL_dec_f (by omega) ?_))) | (refine X_id ?_; first | (refine X_cutD (c := .block 0 _) [5, 7] (fun (bs : List Int) => []) (fun bs => [isMem p bs, refB r g (n.toNat * 256), refO g (n.toNat * 256) bs]) (fun bs => Mem bs ∧ bs.length = n.toNat * 256) rfl (X_block ?_) (fun bs hbs => have hbm := hbs.1; have hbl := hbs.2; ?_)) | refine X_seq ?_ | (refine X_regionN (by repeat' (first | exact .nil | apply NL.cons)) ?_) | refine X_skip ?_ | refine X_block ?_ | refine X_cond_f rfl ?_) | (refine Y_id ?_; refine Y_then ?_))
    · refine X_loopD2 [1, 5, 7] (fun (i : Nat) (bs : List Int) => [(9, .int .i64 i)]) (fun _ bs => [isMem p bs, refB r g (n.toNat * 256), refO g (n.toNat * 256) bs]) (fun i bs => i ≤ m ∧ Mem bs ∧ bs.length = n.toNat * 256) (fun i _ => m - i) 0 (List.replicate (n.toNat * 256) 0) rfl ⟨Nat.zero_le _, hz, hzl⟩ (by (repeat' (first | exact trivial | refine And.intro rfl ?_)); done) (by first | exact stars_only [0, 0, 0] rfl | exact stars_only [1, 0, 0] rfl | exact stars_only [2, 0, 0] rfl) ?_
      intro i bs hi
      obtain ⟨hi, hbm, hbl⟩ := hi
      by_cases hlt : i < m ∧ i < 60
      · have hx := hl _ (List.mem_of_getElem? (Cof.get_some (xs := l) (i := (i : Int)) (by omega) (by omega)))
        have hxs := hsub _ (List.mem_of_getElem? (Cof.get_some (xs := l) (i := (i : Int)) (by omega) (by omega)))
        have hd := done_spec p r g bs (Cof.get l (i : Int)) hx hbm
        have hsm := stepB_mem (x := Cof.get l (i : Int)) hbm hx hxs.1
        rw [hbl] at hd hsm
        repeat' (first | (refine XL_id ?_; first | refine XL_nil ?_ | refine XL_guard_yes rfl rfl rfl ?_ | (refine XG_load ?_; refine XL_elW tt_ok rfl (by assumption) rfl (by omega) (by omega) rfl rfl rfl rfl ?_) | (refine XG_idx ?_; refine XL_idx tt_ok rfl rfl rfl rfl rfl (by assumption) (by omega) (by omega) rfl ?_) | (refine XG_call ?_; first | (refine XL_op tt_ok rfl rfl ?_) | refine XL_callE [0, 1] hd rfl rfl rfl (fun g hg hL => ⟨blk_at 0 rfl hL, hxs.le hg⟩) ?_) | (refine XL_op tt_ok rfl rfl ?_; try (first | refine XL_int (wrap_i64 (by omega) (by omega)) ?_ | refine XL_dec_t (by omega) ?_))) | (refine X_id ?_; first | refine X_seq ?_ | (refine X_regionN (by repeat' (first | exact .nil | apply NL.cons)) ?_) | refine X_skip ?_ | refine X_block ?_ | refine X_cond_t rfl ?_ | refine X_cond_f rfl ?_) | (refine Y_id ?_; first | refine Y_then ?_ | refine Y_block_normal ?_))
        all_goals first
          | exact Y_again (i + 1, stepB bs (Cof.get l (i : Int))) fun _ _ hf hs => ⟨⟨by show i + 1 ≤ m; omega, hsm⟩, by show m - (i + 1) < m - i; omega, hf.sub (by (repeat' (first | exact trivial | refine And.intro rfl ?_)); done), hs.imp fun h hs => stars_only [0, 1, 0] rfl h hs⟩
          | skip
        
      · repeat' (first | (refine XL_id ?_; first | refine XL_nil ?_ | refine XL_guard_yes rfl rfl rfl ?_ | refine XL_guard_no rfl rfl rfl rfl rfl ?_ | (refine XL_op tt_ok rfl rfl ?_; try (first | refine XL_dec_f (by omega) ?_ | refine XL_dec (fun _ => ?_) (fun _ => ?_)))) | (refine X_id ?_; first | refine X_seq ?_ | (refine X_regionN (by repeat' (first | exact .nil | apply NL.cons)) ?_) | refine X_exit ?_ | refine X_cond_f rfl ?_) | (refine Y_id ?_; first | refine Y_then ?_ | refine Y_then_exit ?_ | refine Y_block_hit ?_))
        all_goals first
          | exact Y_again bs fun _ _ hf hs => ⟨⟨hbm, hbl⟩, hf.sub (by (repeat' (first | exact trivial | refine And.intro rfl ?_)); done), hs⟩
          | (exfalso; omega)
          | skip
        
    · refine X_loopD [5, 7] (fun (i : Nat) => [(10, .int .i64 i)]) (fun _ => [isMem p bs, refB r g (n.toNat * 256), refO g (n.toNat * 256) bs]) (fun i => i ≤ 64) (fun i => 64 - i) 0 rfl (by omega) (by (repeat' (first | exact trivial | refine And.intro rfl ?_)); done) (fun _ h => h) ?_
      intro i hi
      have hi : i ≤ 64 := hi
      have hpl := page_law p r g (n.toNat * 256) bs i hbm hbl.symm (by omega) (by omega)
      by_cases hlt : (i : Int) < n ∧ i < 64
      · repeat' (first | (refine XL_id ?_; first | refine XL_nil ?_ | refine XL_guard_yes rfl rfl rfl ?_ | (refine XG_call ?_; first | (refine XL_fn (hrf _ _) rfl rfl (fun g hg hL => by exact blk_at 1 rfl hL) ?_) | refine XL_callE [0, 1] hpl rfl rfl rfl (fun g hg hL => blk_at 0 rfl hL) ?_) | (refine XL_op tt_ok rfl rfl ?_; try (first | refine XL_int (wrap_i64 (by omega) (by omega)) ?_ | refine XL_dec_t (by omega) ?_))) | (refine X_id ?_; first | refine X_seq ?_ | (refine X_regionN (by repeat' (first | exact .nil | apply NL.cons)) ?_) | refine X_skip ?_ | refine X_block ?_ | refine X_cond_t rfl ?_ | refine X_cond_f rfl ?_) | (refine Y_id ?_; first | refine Y_then ?_ | refine Y_block_normal ?_))
        all_goals first
          | exact Y_again (i + 1) fun _ _ hf hs => ⟨by show i + 1 ≤ 64; omega, by show 64 - (i + 1) < 64 - i; omega, hf.sub (by (repeat' (first | exact trivial | refine And.intro rfl ?_)); done), hs.imp fun h hs => stars_only [0, 1, 0] rfl h hs⟩
          | skip
        
      · repeat' (first | (refine XL_id ?_; first | refine XL_nil ?_ | refine XL_guard_yes rfl rfl rfl ?_ | refine XL_guard_no rfl rfl rfl rfl rfl ?_ | (refine XG_call ?_; first | (refine XL_fn (hrf _ _) rfl rfl (fun g hg hL => by exact blk_at 1 rfl hL) ?_) | refine XL_fn works_spec rfl rfl (fun _ _ _ => trivial) ?_) | (refine XL_op tt_ok rfl rfl ?_; try (first | refine XL_dec_f (by omega) ?_ | refine XL_dec (fun _ => ?_) (fun _ => ?_)))) | (refine X_id ?_; first | refine X_seq ?_ | (refine X_regionN (by repeat' (first | exact .nil | apply NL.cons)) ?_) | refine X_ret ?_ | refine X_exit ?_ | refine X_cond_f rfl ?_) | (refine Y_id ?_; first | refine Y_then ?_ | refine Y_then_exit ?_ | refine Y_block_hit ?_))
        all_goals first
          | exact Y_fn1 rfl rfl rfl
          | (exfalso; omega)
          | skip
        
    
  · have hn1 := new_bad n (by omega)
    have hn2 := rnew_bad n (by omega)
    repeat' (first | (refine XL_id ?_; first | refine XL_nil ?_ | refine XL_guard_yes rfl rfl rfl ?_ | refine XL_guard_no rfl rfl rfl rfl rfl ?_ | (refine XG_call ?_; first | refine XL_fn hn1 rfl rfl (fun _ _ _ => trivial) ?_ | refine XL_fn hn2 rfl rfl (fun _ _ _ => trivial) ?_ | refine XL_fn nFrames_n rfl rfl (fun _ _ _ => trivial) ?_ | refine XL_fn qFrames_n rfl rfl (fun _ _ _ => trivial) ?_ | refine XL_fn works_spec rfl rfl (fun _ _ _ => trivial) ?_) | (refine XL_op tt_ok rfl rfl ?_; try (first | refine XL_dec_t (by omega) ?_ | refine XL_dec_f (by omega) ?_))) | (refine X_id ?_; first | refine X_unroll (c := .seq (.seq (.region 11 _ _) _) _) 1 ?_ | refine X_cutD (c := .block 0 _) [5, 7] (fun (_ : Unit) => []) (fun _ => []) (fun _ => True) rfl (X_block ?_) (fun _ _ => ?_) | refine X_seq ?_ | (refine X_regionN (by repeat' (exact .nil)) ?_) | refine X_skip ?_ | refine X_ret ?_ | refine X_exit ?_ | refine X_block ?_ | refine X_cond_f rfl ?_) | (refine Y_id ?_; first | refine Y_then ?_ | refine Y_then_exit ?_ | refine Y_block_hit ?_))
    · refine X_loopD [1, 5, 7] (fun (i : Nat) => [(9, .int .i64 i)]) (fun _ => []) (fun i => i ≤ m) (fun i => m - i) 0 rfl (Nat.zero_le _) (by (repeat' (first | exact trivial | refine And.intro rfl ?_)); done) (fun _ h => h) ?_
      intro i hi
      have hi : i ≤ m := hi
      by_cases hlt : i < m ∧ i < 60
      · have hx := hl _ (List.mem_of_getElem? (Cof.get_some (xs := l) (i := (i : Int)) (by omega) (by omega)))
        have hxs := hsub _ (List.mem_of_getElem? (Cof.get_some (xs := l) (i := (i : Int)) (by omega) (by omega)))
        have hd := done_nil (Cof.get l (i : Int)) hx
        repeat' (first | (refine XL_id ?_; first | refine XL_nil ?_ | refine XL_guard_yes rfl rfl rfl ?_ | (refine XG_load ?_; refine XL_elW tt_ok rfl (by assumption) rfl (by omega) (by omega) rfl rfl rfl rfl ?_) | (refine XG_idx ?_; refine XL_idx tt_ok rfl rfl rfl rfl rfl (by assumption) (by omega) (by omega) rfl ?_) | (refine XG_call ?_; first | (refine XL_op tt_ok rfl rfl ?_) | refine XL_fn hd rfl rfl (fun g hg hL => hxs.le hg) ?_) | (refine XL_op tt_ok rfl rfl ?_; try (first | refine XL_int (wrap_i64 (by omega) (by omega)) ?_ | refine XL_dec_t (by omega) ?_))) | (refine X_id ?_; first | refine X_seq ?_ | (refine X_regionN (by repeat' (exact .nil)) ?_) | refine X_skip ?_ | refine X_block ?_ | refine X_cond_t rfl ?_ | refine X_cond_f rfl ?_) | (refine Y_id ?_; first | refine Y_then ?_ | refine Y_block_normal ?_))
        all_goals first
          | exact Y_again (i + 1) fun _ _ hf hs => ⟨by show i + 1 ≤ m; omega, by show m - (i + 1) < m - i; omega, hf.sub (by (repeat' (first | exact trivial | refine And.intro rfl ?_)); done), hs⟩
          | skip
        
      · repeat' (first | (refine XL_id ?_; first | refine XL_nil ?_ | refine XL_guard_yes rfl rfl rfl ?_ | refine XL_guard_no rfl rfl rfl rfl rfl ?_ | (refine XL_op tt_ok rfl rfl ?_; try (first | refine XL_dec_f (by omega) ?_ | refine XL_dec (fun _ => ?_) (fun _ => ?_)))) | (refine X_id ?_; first | refine X_seq ?_ | (refine X_regionN (by repeat' (exact .nil)) ?_) | refine X_exit ?_ | refine X_cond_f rfl ?_) | (refine Y_id ?_; first | refine Y_then ?_ | refine Y_then_exit ?_ | refine Y_block_hit ?_))
        all_goals first
          | exact Y_again () fun _ _ hf hs => ⟨trivial, hf.sub (by (repeat' (first | exact trivial | refine And.intro rfl ?_)); done), hs⟩
          | (exfalso; omega)
          | skip
        
    all_goals exact Y_fn1 rfl rfl rfl
    
end Go.Proofs.Ytookjknlfkmemaa
