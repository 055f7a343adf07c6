/- Walks of the laws' helpers: page, put. -/
import Derived.Test.YtookjknlfkmemaaRc
set_option linter.unusedVariables false
namespace Go.Proofs.Ytookjknlfkmemaa
open Go.RowKit Go.Cof

structure Dd where
  k : Int
  at_ : Int
  size : Int
  v : Int
  to : Int
  from_ : Int
  b : In Int
instance : Inhabited Dd := ⟨⟨0, 0, 0, 0, 0, 0, ⟨none, 0, 0, []⟩⟩⟩
def encDd : Enc Dd := ⟨fun x => [.int .i64 x.k, .int .u64 x.at_, .int .i64 x.size, .int .u64 x.v, .int .i64 x.to, .int .i64 x.from_, .slice x.b.A x.b.m x.b.c], 7, fun _ => rfl, by decide, fun x u hu => by simp at hu; rcases hu with rfl | rfl | rfl | rfl | rfl | rfl | rfl <;> rfl⟩
abbrev ddV (x : Dd) : Value := .agg #[.int .i64 x.k, .int .u64 x.at_, .int .i64 x.size, .int .u64 x.v, .int .i64 x.to, .int .i64 x.from_, .slice x.b.A x.b.m x.b.c]
structure Dd.In (x : Dd) : Prop where
  k : -9223372036854775808 ≤ x.k ∧ x.k ≤ 9223372036854775807
  at_ : 0 ≤ x.at_ ∧ x.at_ ≤ 18446744073709551615
  size : -9223372036854775808 ≤ x.size ∧ x.size ≤ 9223372036854775807
  v : 0 ≤ x.v ∧ x.v ≤ 18446744073709551615
  to : -9223372036854775808 ≤ x.to ∧ x.to ≤ 9223372036854775807
  from_ : -9223372036854775808 ≤ x.from_ ∧ x.from_ ≤ 9223372036854775807
  bm : x.b.m ≤ 140737488351232
  bc : x.b.m ≤ x.b.c
  bb : ∀ y ∈ x.b.xs, 0 ≤ y ∧ y < 256
set_option maxRecDepth 100000 in
set_option maxHeartbeats 8000000 in
theorem page_law (p r g : Nat) (N : Nat) (bs : List Int) (f : Int) (hm : Mem bs) (hN : N = bs.length) (h2 : -9223372036854775808 ≤ f) (h3 : f < 9223372036854775808) :
    Ctr Try.prog 24 [.pointer (some ⟨p, 0, none⟩), .pointer (some ⟨r, 0, none⟩), .int .i64 f] (refB r g N) [isMem p bs, refO g N bs] (fun v L => v = .bool true ∧ L = [isMem p bs, refO g N bs]) := by
  have hp := pageL_spec p bs f hm h2 h3
  have hr := rpageL_spec r g N bs f hm hN
  have hpl := pageX_len hm f
  refine Ctr.intro Try.func24 rfl rfl (by decide +kernel) fun F hpre => ?_
  repeat' (first | (refine XL_id ?_; first | refine XL_nil ?_ | refine XL_guard_yes rfl rfl rfl ?_ | (refine XG_call ?_; first | (refine XL_callK [0] hp rfl rfl (fun _ => rfl) (fun _ _ _ => trivial) (fun u L hv => ?_); obtain ⟨A1, c1, rfl, rfl⟩ := hv) | (refine XL_callK [] hr rfl rfl (fun _ => rfl) (fun g hg hL => ⟨blk_le hpre hg, by exact rd_at 2 rfl hL⟩) (fun u L hv => ?_); obtain ⟨A2, c2, rfl, rfl⟩ := hv) | (refine XL_fn (sameBytes_spec A1 A2 (pageX bs f).length c1 (pageX bs f).length c2 (pageX bs f) (pageX bs f) (by omega) (by omega)) rfl rfl (fun g hg hL => ⟨by first | exact rd_at 0 rfl hL | exact rd_at 1 rfl hL, by first | exact rd_at 0 rfl hL | exact rd_at 3 rfl hL⟩) ?_; refine XL_dec_t rfl ?_)) | (refine XL_op tt_ok rfl rfl ?_; try (first | refine XL_dec_t (by omega) ?_ | refine XL_dec_f (by omega) ?_))) | (refine X_id ?_; first | refine X_cutD (c := .block 0 _) [0, 2, 7, 9, 10] (fun (ys : List Int) => []) (fun ys => [own (encI .u8) A1 (pageX bs f).length c1 ys, isMem p bs, refO g N bs, own (encI .u8) A2 (pageX bs f).length c2 (pageX bs f)]) (fun ys => True) rfl (X_block ?_) (fun ys _ => ?_) | refine X_cutD (c := .block 2 _) [0, 2, 9, 10] (fun (_ : Unit) => []) (fun _ => [isMem p bs, refO g N bs, own (encI .u8) A2 (pageX bs f).length c2 (pageX bs f)]) (fun _ => True) rfl (X_block ?_) (fun _ _ => ?_) | refine X_seq ?_ | (refine X_regionN (by repeat' (first | exact .nil | apply NL.cons)) ?_) | refine X_skip ?_ | refine X_ret ?_ | refine X_cond_f rfl ?_) | (refine Y_id ?_; refine Y_then ?_))
  · refine X_loopD2 [0, 2, 7, 9, 10] (fun (i : Nat) (ys : List Int) => [(11, .int .i64 i)]) (fun _ ys => [own (encI .u8) A1 (pageX bs f).length c1 ys, isMem p bs, refO g N bs, own (encI .u8) A2 (pageX bs f).length c2 (pageX bs f)]) (fun i ys => i ≤ (pageX bs f).length) (fun i _ => (pageX bs f).length - i) 0 (pageX bs f) rfl (Nat.zero_le _) (by (repeat' (first | exact trivial | refine And.intro rfl ?_)); done) (stars_only [1, 1, 1, 0] rfl) ?_
    intro i ys hi
    have hi : i ≤ (pageX bs f).length := hi
    by_cases hlt : i < (pageX bs f).length
    · refine X_fact 0 rfl (fun _ o => And.intro (own_some o (by omega)) (own_len o)) fun hq => ?_
      obtain ⟨⟨q, rfl⟩, hyl, _⟩ := hq
      repeat' (first | (refine XL_id ?_; first | refine XL_nil ?_ | (refine XG_load ?_; refine XL_at tt_ok 0 rfl rfl rfl (by omega) rfl rfl rfl rfl ?_) | (refine XG_idx ?_; refine XL_idxl tt_ok rfl rfl rfl rfl rfl (by omega) (by omega) rfl ?_) | (refine XG_store ?_; refine XL_put1 tt_ok 0 _ rfl rfl rfl rfl rfl rfl rfl (by omega) rfl ?_) | (refine XL_op tt_ok rfl rfl ?_; try (first | refine XL_int (wrap_i64 (by omega) (by omega)) ?_ | refine XL_dec_t (by omega) ?_))) | (refine X_id ?_; first | refine X_seq ?_ | (refine X_regionN (by repeat' (first | exact .nil | apply NL.cons)) ?_) | refine X_skip ?_ | refine X_block ?_ | refine X_cond_t rfl ?_) | (refine Y_id ?_; first | refine Y_then ?_ | refine Y_block_normal ?_))
      all_goals first
        | exact Y_again (i + 1, _) fun _ _ hf hs => ⟨by show i + 1 ≤ (pageX bs f).length; omega, by show (pageX bs f).length - (i + 1) < (pageX bs f).length - i; omega, hf.sub (by (repeat' (first | exact trivial | refine And.intro rfl ?_)); done), hs⟩
        | skip
      
    · repeat' (first | (refine XL_id ?_; first | refine XL_nil ?_ | (refine XL_op tt_ok rfl rfl ?_; try (refine XL_dec_f (by omega) ?_))) | (refine X_id ?_; first | refine X_seq ?_ | (refine X_regionN (by repeat' (first | exact .nil | apply NL.cons)) ?_) | refine X_exit ?_ | refine X_cond_f rfl ?_) | (refine Y_id ?_; first | refine Y_then ?_ | refine Y_then_exit ?_ | refine Y_block_hit ?_))
      exact Y_again ys fun _ _ hf hs => ⟨trivial, hf.sub (by (repeat' (first | exact trivial | refine And.intro rfl ?_)); done), hs⟩
  · refine X_loopD4 [0, 2, 9, 10] (fun (i : Nat) (A3 : Option Addr) (c3 : Nat) (zs : List Int) => [(12, .int .i64 i), (7, .slice A3 ((pageX bs f).length + i) c3)]) (fun i A3 c3 zs => [own (encI .u8) A3 ((pageX bs f).length + i) c3 zs, isMem p bs, refO g N bs, own (encI .u8) A2 (pageX bs f).length c2 (pageX bs f)]) (fun i _ _ _ => i ≤ 300) (fun i _ _ _ => 300 - i) 0 A1 c1 ys rfl (Nat.zero_le _) (by (repeat' (first | exact trivial | refine And.intro rfl ?_)); done) (fun _ h => h) ?_
    intro i A3 c3 zs hi
    have hi : i ≤ 300 := hi
    by_cases hlt : i < 300
    · repeat' (first | (refine XL_id ?_; first | refine XL_nil ?_ | (refine XG_call ?_; (refine XL_app1 tt_ok 1 0 (7 : Int) rfl rfl rfl rfl rfl rfl rfl rfl rfl rfl rfl (by show (_ : Nat) * 1 ≤ _; omega) (by omega) (fun _ _ => rfl) (fun A4 c4 => ?_))) | (refine XG_lit ?_; (refine XL_lit tt_ok rfl rfl rfl rfl rfl rfl rfl rfl rfl (fun _ => rfl) (fun b => ?_); refine XL_nB (by repeat' (first | exact .nil | apply NL.cons)) ?_)) | (refine XL_op tt_ok rfl rfl ?_; try (first | refine XL_int (wrap_i64 (by omega) (by omega)) ?_ | refine XL_dec_t (by omega) ?_))) | (refine X_id ?_; first | refine X_seq ?_ | (refine X_regionN (by repeat' (first | exact .nil | apply NL.cons)) ?_) | refine X_skip ?_ | refine X_block ?_ | refine X_cond_t rfl ?_) | (refine Y_id ?_; first | refine Y_then ?_ | refine Y_block_normal ?_))
      exact Y_again (i + 1, A4, c4, _) fun _ _ hf hs => ⟨by show i + 1 ≤ 300; omega, by show 300 - (i + 1) < 300 - i; omega, hf.sub (by (repeat' (first | exact trivial | refine And.intro rfl ?_)); done), hs.imp fun h hs => stars_only [1, 1, 1, 1] rfl h hs⟩
    · repeat' (first | (refine XL_id ?_; first | refine XL_nil ?_ | (refine XL_op tt_ok rfl rfl ?_; try (refine XL_dec_f (by omega) ?_))) | (refine X_id ?_; first | refine X_seq ?_ | (refine X_regionN (by repeat' (first | exact .nil | apply NL.cons)) ?_) | refine X_exit ?_ | refine X_cond_f rfl ?_) | (refine Y_id ?_; first | refine Y_then ?_ | refine Y_then_exit ?_ | refine Y_block_hit ?_))
      exact Y_again () fun _ _ hf hs => ⟨trivial, hf.sub (by (repeat' (first | exact trivial | refine And.intro rfl ?_)); done), hs.imp fun h hs => stars_only [1, 1, 1] rfl h hs⟩
  · exact Y_ret1 rfl rfl (stars_only [1, 1] rfl) ⟨rfl, rfl⟩
  
set_option maxRecDepth 100000 in
set_option maxHeartbeats 8000000 in
theorem put_law (p r g : Nat) (N : Nat) (bs : List Int) (x : Dd) (hx : x.In) (hm : Mem bs) (hN : N = bs.length) :
    Ctr Try.prog 34 [.pointer (some ⟨p, 0, none⟩), .pointer (some ⟨r, 0, none⟩), ddV x] (fun h => refB r g N h ∧ rdS (encI .u8) h x.b.A x.b.m x.b.xs) [isMem p bs, refO g N bs]
      (fun v L => v = .bool true ∧ L = [isMem p (if putE bs.length x.to x.b.m = 0 then putF bs x.to x.b.xs else bs), refO g N (if putE bs.length x.to x.b.m = 0 then putF bs x.to x.b.xs else bs)]) := by
  have hbm := hx.bm
  have hto := hx.to
  have hsp := spare_spec x.b.A x.b.m x.b.c x.b.xs hbm
  have hp := fun (A : Option Addr) (c : Nat) => putL_spec p bs x.to A x.b.m c x.b.xs (by omega) (by omega) (by omega) hx.bb
  have hr := rput_spec r g N bs x.to x.b.A x.b.m x.b.c x.b.xs hm hN (by omega)
  rw [hN] at hr
  generalize hE : putE bs.length x.to x.b.m = E at hp hr ⊢
  generalize hB : (if E = 0 then putF bs x.to x.b.xs else bs) = bs' at hp hr ⊢
  refine Ctr.intro Try.func34 rfl rfl (by decide +kernel) fun F hpre => ?_
  subst hN
  obtain ⟨hb, hrd⟩ := hpre
  have hxl := hrd.1
  have htk : (x.b.xs ++ marks).take x.b.m = x.b.xs := by rw [hxl, List.take_left]
  repeat' (first | (refine XL_id ?_; first | refine XL_nil ?_ | refine XL_guard_yes rfl rfl rfl ?_ | (refine XG_load ?_; first | refine XL_load tt_ok 0 rfl rfl rfl rfl rfl rfl ?_ | refine XL_load tt_ok 1 rfl rfl rfl rfl rfl rfl ?_ | refine XL_load tt_ok 2 rfl rfl rfl rfl rfl rfl ?_ | refine XL_load tt_ok 3 rfl rfl rfl rfl rfl rfl ?_) | (refine XG_box ?_; (refine XL_box rfl (fun _ => rfl) (fun _ => ?_); refine XL_nB (by repeat' (first | exact .nil | apply NL.cons)) ?_)) | (refine XG_call ?_; first | (refine XL_callK [] hsp rfl rfl (fun _ => rfl) (fun g hg hL => hrd.le hg) (fun u L hv => ?_); obtain ⟨⟨A1, c1⟩, rfl, hc1, rfl⟩ := hv) | (refine XL_callE [2] (hp _ _) rfl rfl rfl (fun g hg hL => by have := (rd_at 0 rfl hL).take x.b.m (by omega); rwa [htk] at this) ?_) | refine XL_callE [3] hr rfl rfl rfl (fun g hg hL => ⟨blk_le hb hg, hrd.le hg⟩) ?_ | (refine XL_fn (kept_spec _ _ _ _ _ _ x.b.xs hbm hc1) rfl rfl (fun g hg hL => ⟨by exact rd_at 2 rfl hL, hrd.le hg⟩) ?_)) | (refine XL_op tt_ok rfl rfl ?_; try (refine XL_dec_f (by omega) ?_))) | (refine X_id ?_; first | refine X_seq ?_ | (refine X_regionN (by repeat' (first | exact .nil | apply NL.cons)) ?_) | refine X_skip ?_ | refine X_block ?_ | refine X_cond_f rfl ?_) | (refine Y_id ?_; refine Y_then ?_))
  refine X_loopD2 [7] (fun (i : Nat) (ys : List Int) => [(9, .int .i64 i)]) (fun _ ys => [own (encI .u8) A1 (x.b.m + 20) c1 ys, isMem p bs', refO g bs.length bs']) (fun i ys => i ≤ x.b.m) (fun i _ => x.b.m - i) 0 (x.b.xs ++ marks) rfl (Nat.zero_le _) (by (repeat' (first | exact trivial | refine And.intro rfl ?_)); done) (stars_only [2, 1, 0] rfl) ?_
  intro i ys hi
  have hi : i ≤ x.b.m := hi
  by_cases hlt : i < x.b.m
  · refine X_fact 0 rfl (fun _ o => And.intro (own_some o (by omega)) (own_len o)) fun hq => ?_
    obtain ⟨⟨q, rfl⟩, hyl, _⟩ := hq
    repeat' (first | (refine XL_id ?_; first | refine XL_nil ?_ | (refine XG_load ?_; refine XL_at tt_ok 0 rfl rfl rfl (by omega) rfl rfl rfl rfl ?_) | (refine XG_idx ?_; refine XL_idxl tt_ok rfl rfl rfl rfl rfl (by omega) (by omega) rfl ?_) | (refine XG_store ?_; refine XL_put1 tt_ok 0 _ rfl rfl rfl rfl rfl rfl rfl (by omega) rfl ?_) | (refine XL_op tt_ok rfl rfl ?_; try (first | refine XL_int (wrap_i64 (by omega) (by omega)) ?_ | refine XL_dec_t (by omega) ?_))) | (refine X_id ?_; first | refine X_seq ?_ | (refine X_regionN (by repeat' (first | exact .nil | apply NL.cons)) ?_) | refine X_skip ?_ | refine X_block ?_ | refine X_cond_t rfl ?_) | (refine Y_id ?_; first | refine Y_then ?_ | refine Y_block_normal ?_))
    all_goals first
      | exact Y_again (i + 1, _) fun _ _ hf hs => ⟨by show i + 1 ≤ x.b.m; omega, by show x.b.m - (i + 1) < x.b.m - i; omega, hf.sub (by (repeat' (first | exact trivial | refine And.intro rfl ?_)); done), hs⟩
      | skip
    
  · repeat' (first | (refine XL_id ?_; first | refine XL_nil ?_ | (refine XL_op tt_ok rfl rfl ?_; try (refine XL_dec_f (by omega) ?_))) | (refine X_id ?_; first | refine X_seq ?_ | (refine X_regionN (by repeat' (first | exact .nil | apply NL.cons)) ?_) | refine X_ret ?_ | refine X_exit ?_ | refine X_cond_f rfl ?_) | (refine Y_id ?_; first | refine Y_then ?_ | refine Y_then_exit ?_ | refine Y_block_hit ?_))
    exact Y_ret1 rfl rfl (stars_only [1, 1] rfl) ⟨rfl, rfl⟩
end Go.Proofs.Ytookjknlfkmemaa
