/- Walks of the program's TLB, as a row, the youngest first. -/
import Derived.Test.YtocilbkjbikeeaaPa
set_option linter.unusedVariables false
namespace Go.Proofs.Ytocilbkjbikeeaa
open Go.RowKit Go.Cof

def isTlb (p : Nat) (n : Int) (ys : List Tr) : HProp := fun h => ∃ x : Option Addr × Nat, TOk n ys ∧ stars [tlbB p n x.1 ys.length x.2, own encTr x.1 ys.length x.2 ys.reverse] h
theorem isTlb_mk {p : Nat} {n : Int} {A : Option Addr} {m c : Nat} {l : List Tr} (ys : List Tr) (hok : TOk n ys) (hm : m = ys.length) (hl : l = ys.reverse) : ∀ h, stars [tlbB p n A m c, own encTr A m c l] h → isTlb p n ys h := fun h hs => by
  subst hm hl
  exact ⟨(A, c), hok, hs⟩
theorem new_ok (n : Int) (h1 : 1 ≤ n) (h2 : n ≤ 64) : Ctr Try.prog 10 [.int .i64 n] (fun _ => True) [] (fun v L => ∃ p, v = .tuple #[ptr p, .int .i64 0] ∧ L = [isTlb p n []]) := by
  refine Ctr.intro Try.func10 rfl rfl (by decide +kernel) fun F hpre => ?_
  repeat' (first | (refine XL_id ?_; first | refine XL_nil ?_ | refine XL_guard_yes rfl rfl rfl ?_ | (refine XG_box ?_; (refine XL_box rfl (fun _ => rfl) (fun _ => ?_); refine XL_nB (by repeat' (first | exact .nil | apply NL.cons)) ?_)) | (refine XG_build ?_; (refine XL_build tt_ok rfl rfl rfl rfl rfl rfl rfl ?_; refine XL_aggN (by repeat' (first | exact .nil | apply NL.cons)) ?_)) | (refine XL_op tt_ok rfl rfl ?_; try (refine XL_dec_f (by omega) ?_))) | (refine X_id ?_; first | refine X_seq ?_ | (refine X_regionN (by repeat' (exact .nil)) ?_) | refine X_skip ?_ | refine X_ret ?_ | refine X_cond_f rfl ?_) | (refine Y_id ?_; refine Y_then ?_))
  all_goals first
    | exact Y_ret2 rfl rfl rfl (stars_fin [0] rfl fun h hs => ⟨(none, 0), TOk.nil h1 h2, by obtain ⟨g1, g2, d, a, b, hA, hB⟩ := hs; exact ⟨g1, g2, d, a, b, hA, stars_new (own_nil _ _) hB⟩⟩) ⟨_, rfl, rfl⟩
    | (exfalso; omega)
    | skip
  
theorem new_bad (n : Int) (h : n < 1 ∨ 64 < n) : FnC Try.prog 10 [.int .i64 n] (fun _ => True) (.tuple #[.pointer none, .int .i64 2]) := by
  refine Ctr.intro Try.func10 rfl rfl (by decide +kernel) fun F hpre => ?_
  repeat' (first | (refine XL_id ?_; first | refine XL_nil ?_ | refine XL_guard_yes rfl rfl rfl ?_ | refine XL_guard_no rfl rfl rfl rfl rfl ?_ | (refine XL_op tt_ok rfl rfl ?_; try (first | refine XL_dec_t (by omega) ?_ | refine XL_dec (fun _ => ?_) (fun _ => ?_)))) | (refine X_id ?_; first | refine X_seq ?_ | (refine X_regionN (by repeat' (exact .nil)) ?_) | refine X_ret ?_ | refine X_cond_t rfl ?_) | (refine Y_id ?_; first | refine Y_then ?_ | refine Y_then_ret ?_))
  all_goals first
    | exact Y_fn2 rfl rfl rfl rfl
    | (exfalso; omega)
theorem peek_is (p : Nat) (n : Int) (ys : List Tr) (a pg : Int) : Ctr Try.prog 19 [ptr p, .int .i64 a, .int .i64 pg] (fun _ => True) [isTlb p n ys] (fun v L => v = peekV (peekR ys a pg) ∧ L = [isTlb p n ys]) := by
  refine ⟨(peek_spec p 1 none 0 0 [] a pg (by decide) (by decide)).1, fun F w _ hs => ?_⟩
  obtain ⟨g, h1, h2, h3⟩ := hs.own
  obtain ⟨k1, k2, d', a', b', ⟨x, hok, hx⟩, hR⟩ := h3
  have hn := hok.n1
  have hlen := hok.len
  have hn2 := hok.n2
  have hs2 : St F w [tlbB p n x.1 ys.length x.2, own encTr x.1 ys.length x.2 ys.reverse] := ⟨hs.os, hs.tape, hs.output, hs.size, hs.frz, g, h1, h2, stars_up hx a'⟩
  have hp := peek_spec p n x.1 ys.length x.2 ys.reverse a pg (by omega) (by omega)
  have hpr : peekR ys.reverse a pg = peekR ys a pg := by unfold peekR; rw [find_reverse hok.uniq]
  rw [hpr] at hp
  refine (Ctr.call (A := []) (R := [tlbB p n x.1 ys.length x.2, own encTr x.1 ys.length x.2 ys.reverse]) hp hs2 (fun g hg hL => ⟨blk_at 0 rfl hL, rd_at 1 rfl hL⟩)).mono fun e w' ⟨v, L', he, ⟨hv, hL⟩, hs'⟩ => ⟨v, _, he, ⟨hv, rfl⟩, ?_⟩
  subst hL
  exact hs'.imp (stars_fin [0, 0] rfl fun h hh => ⟨x, hok, hh⟩)
set_option maxHeartbeats 8000000 in
theorem find_is (p : Nat) (n : Int) (ys : List Tr) (a pg : Int) : Ctr Try.prog 11 [ptr p, .int .i64 a, .int .i64 pg] (fun _ => True) [isTlb p n ys] (fun v L => v = peekV (peekR ys a pg) ∧ L = [isTlb p n (findT ys a pg)]) := by
  refine Ctr.intro Try.func11 rfl rfl (by decide +kernel) fun F hpre => ?_
  refine X_openp 0 rfl (fun _ h => h) fun x hok => ?_
  obtain ⟨A, c⟩ := x
  have hn := hok.n1
  have hlen := hok.len
  have hn2 := hok.n2
  have hft := hok.findT a pg
  have hpk := peek_spec p n A ys.length c ys.reverse a pg (by omega) (by omega)
  have hat := at_spec p n A ys.length c ys.reverse a pg (by omega)
  have hfr := find_reverse (a := a) (p := pg) hok.uniq
  have hfq := find_firstQ (kB a pg) ys.reverse
  have hrl : ys.reverse.length = ys.length := List.length_reverse
  unfold peekR at hpk ⊢
  unfold findT at hft ⊢
  rw [hfr] at hpk
  by_cases he : askE a pg = 0
  · rw [if_pos he] at hpk hft ⊢
    rw [if_pos he]
    cases hfd : ys.find? (kB a pg) with
    | none =>
      rw [hfd] at hpk hft
      dsimp only at hpk hft ⊢
      repeat' (first | (refine XL_id ?_; first | refine XL_nil ?_ | (refine XG_load ?_; refine XL_loadW tt_ok 0 rfl rfl rfl rfl rfl rfl ?_) | (refine XG_call ?_; refine XL_fn hpk rfl rfl (fun g hg hL => ⟨blk_at 1 rfl hL, rd_at 2 rfl hL⟩) ?_) | (refine XG_alloc ?_; (refine XL_alloc tt_ok rfl rfl (fun _ => rfl) (fun b => ?_); refine XL_nB (by repeat' (first | exact .nil | apply NL.cons)) ?_)) | (refine XG_store ?_; first | (refine XL_storeW tt_ok 0 rfl rfl rfl rfl rfl rfl rfl ?_; refine XL_nK 0 rfl (by repeat' (first | exact .nil | apply NL.cons)) ?_) | (refine XL_storeW tt_ok 1 rfl rfl rfl rfl rfl rfl rfl ?_; refine XL_nK 1 rfl (by repeat' (first | exact .nil | apply NL.cons)) ?_)) | (refine XL_op tt_ok rfl rfl ?_)) | (refine X_id ?_; first | refine X_seq ?_ | (refine X_regionN (by repeat' (first | exact .nil | apply NL.cons)) ?_) | refine X_skip ?_ | refine X_ret ?_ | refine X_cond_f rfl ?_) | (refine Y_id ?_; refine Y_then ?_))
      all_goals first
        | exact Y_res3 rfl (.cell tt_ok 1 rfl rfl rfl rfl rfl) (.tmp rfl) (.tmp rfl) (stars_fin [2, 2] rfl fun h hh => ⟨(A, c), hok, hh⟩) ⟨rfl, rfl⟩
        | skip
      
    | some y =>
      rw [hfd] at hpk hft
      dsimp only at hpk hft ⊢
      rw [hfr, hfd] at hfq
      by_cases hlt : firstQ (kB a pg) ys.reverse < ys.reverse.length
      · rw [show idxI (kB a pg) ys.reverse = (firstQ (kB a pg) ys.reverse : Int) from if_pos hlt] at hat
        have her := erase_rm hok.uniq.reverse hlt
        rw [rm_reverse] at her
        have hrml := congrArg List.length her
        rw [List.length_eraseIdx_of_lt hlt, List.length_reverse, List.length_reverse] at hrml
        have hmk := fun (A2 : Option Addr) (c2 : Nat) => isTlb_mk (p := p) (n := n) (A := A2) (c := c2) (m := ys.length - 1 + 1) (l := ys.reverse.eraseIdx (firstQ (kB a pg) ys.reverse) ++ [y]) (y :: rm a pg ys) hft (by rw [List.length_cons]; omega) (by rw [her, List.reverse_cons])
        refine X_fact 1 rfl (fun _ o => own_some o (by omega)) fun hq2 => ?_
        obtain ⟨bq, rfl⟩ := hq2
        repeat' (first | (refine XL_id ?_; first | refine XL_nil ?_ | (refine XG_load ?_; refine XL_loadW tt_ok 2 rfl rfl rfl rfl rfl rfl ?_) | (refine XG_build ?_; (refine XL_build tt_ok rfl rfl rfl rfl rfl rfl rfl ?_; refine XL_aggN (by repeat' (first | exact .nil | apply NL.cons)) ?_)) | (refine XG_call ?_; first | refine XL_fn hpk rfl rfl (fun g hg hL => ⟨blk_at 1 rfl hL, rd_at 2 rfl hL⟩) ?_ | refine XL_fn hat rfl rfl (fun g hg hL => ⟨blk_at 2 rfl hL, rd_at 3 rfl hL⟩) ?_ | (refine XL_callE [0] (delete_spec bq ys.length c ys.reverse (firstQ (kB a pg) ys.reverse) (by omega) (by omega)) rfl rfl rfl (fun _ _ _ => trivial) ?_) | (refine XL_callE [1] (delete_spec bq ys.length c ys.reverse (firstQ (kB a pg) ys.reverse) (by omega) (by omega)) rfl rfl rfl (fun _ _ _ => trivial) ?_) | (refine XL_app1 tt_ok 1 0 y rfl rfl rfl rfl rfl rfl rfl rfl rfl rfl rfl (by show (_ : Nat) * 32 ≤ _; omega) (by omega) (fun _ _ => rfl) (fun A2 c2 => ?_)) | (refine XL_app1 tt_ok 0 1 y rfl rfl rfl rfl rfl rfl rfl rfl rfl rfl rfl (by show (_ : Nat) * 32 ≤ _; omega) (by omega) (fun _ _ => rfl) (fun A2 c2 => ?_))) | (refine XG_alloc ?_; (refine XL_alloc tt_ok rfl rfl (fun _ => rfl) (fun b => ?_); refine XL_nB (by repeat' (first | exact .nil | apply NL.cons)) ?_)) | (refine XG_lit ?_; (refine XL_lit tt_ok rfl rfl rfl rfl rfl rfl rfl rfl rfl (fun _ => rfl) (fun b => ?_); refine XL_nB (by repeat' (first | exact .nil | apply NL.cons)) ?_)) | (refine XG_store ?_; first | (refine XL_storeW tt_ok 0 rfl rfl rfl rfl rfl rfl rfl ?_; refine XL_nK 0 rfl (by repeat' (first | exact .nil | apply NL.cons)) ?_) | (refine XL_storeW tt_ok 3 rfl rfl rfl rfl rfl rfl rfl ?_; refine XL_nK 3 rfl (by repeat' (first | exact .nil | apply NL.cons)) ?_) | (refine XL_store tt_ok 4 rfl rfl rfl rfl rfl rfl rfl rfl ?_; refine XL_nK 4 rfl (by repeat' (first | exact .nil | apply NL.cons)) ?_)) | (refine XL_op tt_ok rfl rfl ?_)) | (refine XD_id ?_; first | refine XD_nil ?_ | (refine XD_id ?_; (first | (refine XD_uL rfl ?_; first | refine XD_s rfl rfl rfl (XV_loadW tt_ok rfl (blk_at 0 rfl hM) rfl rfl rfl) rfl ?_ | refine XD_s rfl rfl rfl (XV_load tt_ok rfl (blk_at 2 rfl hM) rfl rfl rfl) rfl ?_) | (refine XD_u rfl rfl ?_; refine XD_s rfl rfl rfl (XV_op tt_ok rfl) rfl ?_)); try (refine XD_int (wrap_i64 (by omega) (by omega)) ?_)) | refine XD_m rfl rfl ?_ | (refine XD_thaw thaw ?_; refine XD_l rfl rfl ?_)) | (refine X_id ?_; first | (refine X_draw2 (id := 4) ⟨[0, 1, 2, 3, 4, 5, 6, 7, 9], 8, [10, 11, 12, 13, 14]⟩ ⟨[0, 1, 2, 3, 4, 5, 6, 7, 9], 10, [8, 11, 12, 13, 14]⟩ (fun | 8 => .m | 10 => .m | 11 => .m | 14 => .l | _ => .s) 8 (by (repeat apply Split.blk); apply Split.keep; repeat' (exact Split.nil)) mixed (by decide +kernel) ?_ ?_ <;> (intro G hFG hM thaw; (first | show XD _ _ _ _ _ _ [0, 1, 2, 3, 4, 5, 6, 7, 9, 8, 10, 11, 12, 13, 14] _ _ _ | show XD _ _ _ _ _ _ [0, 1, 2, 3, 4, 5, 6, 7, 9, 10, 8, 11, 12, 13, 14] _ _ _))) | refine X_seq ?_ | (refine X_regionN (by repeat' (first | exact .nil | apply NL.cons)) ?_) | refine X_ret ?_ | refine X_cond_t rfl ?_) | (refine Y_id ?_; first | refine Y_then ?_ | refine Y_m ?_ | refine Y_l ?_))
        all_goals first
          | exact Y_res3 rfl (.cell tt_ok 3 rfl rfl rfl rfl rfl) (.tmp rfl) (.tmp rfl) (stars_fin [4, 1] rfl (hmk _ _)) ⟨rfl, rfl⟩
          | exact Y_res3 rfl (.cell tt_ok 3 rfl rfl rfl rfl rfl) (.tmp rfl) (.tmp rfl) (stars_fin [4, 0] rfl (hmk _ _)) ⟨rfl, rfl⟩
          | skip
        
      · rw [if_neg hlt] at hfq
        cases hfq
  · rw [if_neg he] at hpk hft ⊢
    rw [if_neg he]
    repeat' (first | (refine XL_id ?_; first | refine XL_nil ?_ | (refine XG_load ?_; refine XL_loadW tt_ok 0 rfl rfl rfl rfl rfl rfl ?_) | (refine XG_call ?_; refine XL_fn hpk rfl rfl (fun g hg hL => ⟨blk_at 1 rfl hL, rd_at 2 rfl hL⟩) ?_) | (refine XG_alloc ?_; (refine XL_alloc tt_ok rfl rfl (fun _ => rfl) (fun b => ?_); refine XL_nB (by repeat' (first | exact .nil | apply NL.cons)) ?_)) | (refine XG_store ?_; first | (refine XL_storeW tt_ok 0 rfl rfl rfl rfl rfl rfl rfl ?_; refine XL_nK 0 rfl (by repeat' (first | exact .nil | apply NL.cons)) ?_) | (refine XL_storeW tt_ok 1 rfl rfl rfl rfl rfl rfl rfl ?_; refine XL_nK 1 rfl (by repeat' (first | exact .nil | apply NL.cons)) ?_)) | (refine XL_op tt_ok rfl rfl ?_)) | (refine X_id ?_; first | refine X_seq ?_ | (refine X_regionN (by repeat' (first | exact .nil | apply NL.cons)) ?_) | refine X_skip ?_ | refine X_ret ?_ | refine X_cond_f rfl ?_) | (refine Y_id ?_; refine Y_then ?_))
    all_goals first
      | exact Y_res3 rfl (.cell tt_ok 1 rfl rfl rfl rfl rfl) (.tmp rfl) (.tmp rfl) (stars_fin [2, 2] rfl fun h hh => ⟨(A, c), hok, hh⟩) ⟨rfl, rfl⟩
      | skip
    
end Go.Proofs.Ytocilbkjbikeeaa
