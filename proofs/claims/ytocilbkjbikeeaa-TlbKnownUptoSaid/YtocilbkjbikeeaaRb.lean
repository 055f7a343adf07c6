/- Walks of the reference's TLB, as a row. -/
import Derived.Test.YtocilbkjbikeeaaRa
set_option linter.unusedVariables false
namespace Go.Proofs.Ytocilbkjbikeeaa
open Go.RowKit Go.Cof

set_option maxHeartbeats 8000000 in
theorem rpeek_spec (p : Nat) (n : Int) (A : Option Addr) (m c : Nat) (ys : List Tr) (a pg : Int) (hn : n ≠ 0) (hm : m ≤ 100000) : FnC Try.prog 39 [ptr p, .int .i64 a, .int .i64 pg] (fun h => refB p n A m c h ∧ rdS encTr h A m ys) (peekV (peekR ys a pg)) := by
  have hask := rasked_spec p n A m c a pg hn
  have hat := rat_spec p n A m c ys a pg hm
  have hff := find_firstQ (kB a pg) ys
  unfold peekR
  rw [hff]
  refine Ctr.intro Try.func39 rfl rfl (by decide +kernel) fun F hpre => ?_
  obtain ⟨hb, hr⟩ := hpre
  have hlen := hr.1
  by_cases he : askE a pg = 0
  · rw [if_pos he]
    rw [he] at hask
    by_cases hf : firstQ (kB a pg) ys < ys.length
    · rw [if_pos hf]
      rw [show idxI (kB a pg) ys = (firstQ (kB a pg) ys : Int) from if_pos hf] at hat
      repeat' (first | (refine XL_id ?_; first | refine XL_nil ?_ | (refine XG_load ?_; first | refine XL_loadF tt_ok rfl (by assumption) rfl rfl rfl rfl ?_ | refine XL_elW tt_ok rfl (by assumption) rfl (by omega) (by omega) rfl rfl rfl rfl ?_) | (refine XG_idx ?_; refine XL_idx tt_ok rfl rfl rfl rfl rfl (by assumption) (by omega) (by omega) rfl ?_) | (refine XG_call ?_; first | refine XL_fn hask rfl rfl (fun g hg hL => blk_le hb hg) ?_ | refine XL_fn hat rfl rfl (fun g hg hL => ⟨blk_le hb hg, hr.le hg⟩) ?_) | (refine XG_alloc ?_; (refine XL_alloc tt_ok rfl rfl (fun _ => rfl) (fun b => ?_); refine XL_nB (by repeat' (first | exact .nil | apply NL.cons)) ?_)) | (refine XG_store ?_; (refine XL_storeW tt_ok 0 rfl rfl rfl rfl rfl rfl rfl ?_; refine XL_nK 0 rfl (by repeat' (first | exact .nil | apply NL.cons)) ?_)) | (refine XL_op tt_ok rfl rfl ?_; try (refine XL_dec_f (by omega) ?_))) | (refine X_id ?_; first | refine X_seq ?_ | (refine X_regionN (by repeat' (first | exact .nil | apply NL.cons)) ?_) | refine X_skip ?_ | refine X_ret ?_ | refine X_cond_f rfl ?_) | (refine Y_id ?_; refine Y_then ?_))
      all_goals first
        | exact Y_res3 rfl (.cell tt_ok 0 rfl rfl rfl rfl rfl) (.tmp rfl) (.tmp rfl) (L' := []) (fun _ _ => trivial) ⟨rfl, rfl⟩
        | skip
      
    · rw [if_neg hf]
      rw [show idxI (kB a pg) ys = -1 from if_neg hf] at hat
      repeat' (first | (refine XL_id ?_; first | refine XL_nil ?_ | (refine XG_build ?_; (refine XL_build tt_ok rfl rfl rfl rfl rfl rfl rfl ?_; refine XL_aggN (by repeat' (first | exact .nil | apply NL.cons)) ?_)) | (refine XG_call ?_; first | refine XL_fn hask rfl rfl (fun g hg hL => blk_le hb hg) ?_ | refine XL_fn hat rfl rfl (fun g hg hL => ⟨blk_le hb hg, hr.le hg⟩) ?_) | (refine XG_alloc ?_; (refine XL_alloc tt_ok rfl rfl (fun _ => rfl) (fun b => ?_); refine XL_nB (by repeat' (first | exact .nil | apply NL.cons)) ?_)) | (refine XG_store ?_; (refine XL_storeW tt_ok 0 rfl rfl rfl rfl rfl rfl rfl ?_; refine XL_nK 0 rfl (by repeat' (first | exact .nil | apply NL.cons)) ?_)) | (refine XL_op tt_ok rfl rfl ?_; try (first | refine XL_dec_t (by omega) ?_ | refine XL_dec_f (by omega) ?_))) | (refine X_id ?_; first | refine X_seq ?_ | (refine X_regionN (by repeat' (first | exact .nil | apply NL.cons)) ?_) | refine X_skip ?_ | refine X_ret ?_ | refine X_cond_t rfl ?_ | refine X_cond_f rfl ?_) | (refine Y_id ?_; first | refine Y_then ?_ | refine Y_then_ret ?_))
      all_goals first
        | exact Y_res3 rfl (.cell tt_ok 0 rfl rfl rfl rfl rfl) (.tmp rfl) (.tmp rfl) (L' := []) (fun _ _ => trivial) ⟨rfl, rfl⟩
        | skip
      
  · rw [if_neg he]
    repeat' (first | (refine XL_id ?_; first | refine XL_nil ?_ | (refine XG_build ?_; (refine XL_build tt_ok rfl rfl rfl rfl rfl rfl rfl ?_; refine XL_aggN (by repeat' (first | exact .nil | apply NL.cons)) ?_)) | (refine XG_call ?_; refine XL_fn hask rfl rfl (fun g hg hL => blk_le hb hg) ?_) | (refine XG_alloc ?_; (refine XL_alloc tt_ok rfl rfl (fun _ => rfl) (fun b => ?_); refine XL_nB (by repeat' (first | exact .nil | apply NL.cons)) ?_)) | (refine XG_store ?_; (refine XL_storeW tt_ok 0 rfl rfl rfl rfl rfl rfl rfl ?_; refine XL_nK 0 rfl (by repeat' (first | exact .nil | apply NL.cons)) ?_)) | (refine XL_op tt_ok rfl rfl ?_; try (refine XL_dec_t (by omega) ?_))) | (refine X_id ?_; first | refine X_seq ?_ | (refine X_regionN (by repeat' (first | exact .nil | apply NL.cons)) ?_) | refine X_ret ?_ | refine X_cond_t rfl ?_) | (refine Y_id ?_; first | refine Y_then ?_ | refine Y_then_ret ?_))
    all_goals first
      | exact Y_res3 rfl (.cell tt_ok 0 rfl rfl rfl rfl rfl) (.tmp rfl) (.tmp rfl) (L' := []) (fun _ _ => trivial) ⟨rfl, rfl⟩
      | skip
    
theorem onRef {f : FuncId} {args : List Value} {r : Value} {p : Nat} {n : Int} {ys : List Tr} (hc : Callable Try.prog f) (h : ∀ A c, TOk n ys → FnC Try.prog f args (fun g => refB p n A ys.length c g ∧ rdS encTr g A ys.length ys) r) : Ctr Try.prog f args (fun _ => True) [isRef p n ys] (fun v L => v = r ∧ L = [isRef p n ys]) := by
  refine ⟨hc, fun F w _ hs => ?_⟩
  obtain ⟨g, h1, h2, h3⟩ := hs.own
  obtain ⟨k1, k2, d', a', b', ⟨x, hok, hx⟩, hR⟩ := h3
  have hs2 : St F w [refB p n x.1 ys.length x.2, own encTr x.1 ys.length x.2 ys] := ⟨hs.os, hs.tape, hs.output, hs.size, hs.frz, g, h1, h2, stars_up hx a'⟩
  refine (Ctr.call (A := []) (R := [refB p n x.1 ys.length x.2, own encTr x.1 ys.length x.2 ys]) (h x.1 x.2 hok) hs2 (fun g hg hL => ⟨blk_at 0 rfl hL, rd_at 1 rfl hL⟩)).mono fun e w' ⟨v, L', he, ⟨hv, hL⟩, hs'⟩ => ⟨v, _, he, ⟨hv, rfl⟩, ?_⟩
  subst hL
  exact hs'.imp (stars_fin [0, 0] rfl fun h hh => ⟨x, hok, hh⟩)
theorem rpeek_is (p : Nat) (n : Int) (ys : List Tr) (a pg : Int) : Ctr Try.prog 39 [ptr p, .int .i64 a, .int .i64 pg] (fun _ => True) [isRef p n ys] (fun v L => v = peekV (peekR ys a pg) ∧ L = [isRef p n ys]) :=
  onRef (rpeek_spec p 1 none 0 0 [] a pg (by decide) (by decide)).1 fun A c hok => rpeek_spec p n A ys.length c ys a pg (by have := hok.n1; omega) (by have := hok.len; have := hok.n2; omega)
theorem wo_rm {ys : List Tr} {a pg : Int} (hu : Uniq ys) (hlt : firstQ (kB a pg) ys < ys.length) : wo ys (firstQ (kB a pg) ys : Int) = rm a pg ys := by
  unfold wo
  rw [if_pos (by omega), Int.toNat_natCast, erase_rm hu hlt]
set_option maxHeartbeats 8000000 in
theorem rfind_is (p : Nat) (n : Int) (ys : List Tr) (a pg : Int) : Ctr Try.prog 38 [ptr p, .int .i64 a, .int .i64 pg] (fun _ => True) [isRef p n ys] (fun v L => v = peekV (peekR ys a pg) ∧ L = [isRef p n (findT ys a pg)]) := by
  refine Ctr.intro Try.func38 rfl rfl (by decide +kernel) fun F hpre => ?_
  refine X_openp 0 rfl (fun _ h => h) fun xa hok => ?_
  obtain ⟨A, c⟩ := xa
  have hn := hok.n1
  have hlen := hok.len
  have hn2 := hok.n2
  have hft := hok.findT a pg
  have hpk := rpeek_spec p n A ys.length c ys a pg (by omega) (by omega)
  have hat := rat_spec p n A ys.length c ys a pg (by omega)
  have hfq := find_firstQ (kB a pg) ys
  unfold peekR at hpk ⊢
  unfold findT at hft ⊢
  by_cases he : askE a pg = 0
  · rw [if_pos he] at hpk hft ⊢
    rw [if_pos he]
    cases hfd : ys.find? (kB a pg) with
    | none =>
      rw [hfd] at hpk hft
      dsimp only at hpk hft ⊢
      repeat' (first | (refine XL_id ?_; first | refine XL_nil ?_ | (refine XG_load ?_; refine XL_loadW tt_ok 0 rfl rfl rfl rfl rfl rfl ?_) | (refine XG_call ?_; refine XL_fn hpk rfl rfl (fun g hg hL => ⟨blk_at 1 rfl hL, rd_at 2 rfl hL⟩) ?_) | (refine XG_alloc ?_; (refine XL_alloc tt_ok rfl rfl (fun _ => rfl) (fun b => ?_); refine XL_nB (by repeat' (first | exact .nil | apply NL.cons)) ?_)) | (refine XG_store ?_; first | (refine XL_storeW tt_ok 0 rfl rfl rfl rfl rfl rfl rfl ?_; refine XL_nK 0 rfl (by repeat' (first | exact .nil | apply NL.cons)) ?_) | (refine XL_storeW tt_ok 1 rfl rfl rfl rfl rfl rfl rfl ?_; refine XL_nK 1 rfl (by repeat' (first | exact .nil | apply NL.cons)) ?_)) | (refine XL_op tt_ok rfl rfl ?_)) | (refine X_id ?_; first | refine X_seq ?_ | (refine X_regionN (by repeat' (first | exact .nil | apply NL.cons)) ?_) | refine X_skip ?_ | refine X_ret ?_ | refine X_cond_f rfl ?_) | (refine Y_id ?_; refine Y_then ?_))
      all_goals first
        | exact Y_res3 rfl (.cell tt_ok 1 rfl rfl rfl rfl rfl) (.tmp rfl) (.tmp rfl) (stars_fin [2, 2] rfl fun h hh => ⟨(A, c), hok, hh⟩) ⟨rfl, rfl⟩
        | skip
      
    | some y =>
      rw [hfd] at hpk hft hfq
      dsimp only at hpk hft ⊢
      by_cases hlt : firstQ (kB a pg) ys < ys.length
      · rw [show idxI (kB a pg) ys = (firstQ (kB a pg) ys : Int) from if_pos hlt] at hat
        have hwo := without_spec A ys.length c ys (firstQ (kB a pg) ys : Int) (by omega)
        rw [wo_rm hok.uniq hlt] at hwo
        have hrl := rm_len a pg ys
        have hfro := fun (A2 : Option Addr) (c2 : Nat) => front_spec y A2 (rm a pg ys).length c2 (rm a pg ys) (by omega)
        have hmk := fun (A2 : Option Addr) (c2 : Nat) => isRef_mk (p := p) (n := n) (A := A2) (c := c2) (m := (rm a pg ys).length + 1) (l := y :: rm a pg ys) (y :: rm a pg ys) hft (by rw [List.length_cons]) rfl
        repeat' (first | (refine XL_id ?_; first | refine XL_nil ?_ | (refine XG_load ?_; refine XL_loadW tt_ok 3 rfl rfl rfl rfl rfl rfl ?_) | (refine XG_call ?_; first | refine XL_fn hpk rfl rfl (fun g hg hL => ⟨blk_at 1 rfl hL, rd_at 2 rfl hL⟩) ?_ | refine XL_fn hat rfl rfl (fun g hg hL => ⟨blk_le (blk_at 2 rfl hM) hg, rd_at 0 rfl hL⟩) ?_ | (refine XL_callK [] hwo rfl rfl (fun _ => rfl) (fun g hg hL => rd_at 0 rfl hL) (fun u L hv => ?_); obtain ⟨A2, c2, rfl, rfl⟩ := hv) | (refine XL_callK [] (hfro _ _) rfl rfl (fun _ => rfl) (fun g hg hL => rd_at 0 rfl hL) (fun u L hv => ?_); obtain ⟨A3, c3, rfl, rfl⟩ := hv)) | (refine XG_alloc ?_; (refine XL_alloc tt_ok rfl rfl (fun _ => rfl) (fun b => ?_); refine XL_nB (by repeat' (first | exact .nil | apply NL.cons)) ?_)) | (refine XG_store ?_; first | (refine XL_storeW tt_ok 0 rfl rfl rfl rfl rfl rfl rfl ?_; refine XL_nK 0 rfl (by repeat' (first | exact .nil | apply NL.cons)) ?_) | (refine XL_storeW tt_ok 4 rfl rfl rfl rfl rfl rfl rfl ?_; refine XL_nK 4 rfl (by repeat' (first | exact .nil | apply NL.cons)) ?_) | (refine XL_store tt_ok 5 rfl rfl rfl rfl rfl rfl rfl rfl ?_; refine XL_nK 5 rfl (by repeat' (first | exact .nil | apply NL.cons)) ?_)) | (refine XL_op tt_ok rfl rfl ?_)) | (refine XD_id ?_; first | refine XD_nil ?_ | (refine XD_id ?_; (first | (refine XD_uL rfl ?_; first | refine XD_s rfl rfl rfl (XV_loadW tt_ok rfl (blk_at 0 rfl hM) rfl rfl rfl) rfl ?_ | refine XD_s rfl rfl rfl (XV_load tt_ok rfl (blk_at 2 rfl hM) rfl rfl rfl) rfl ?_) | (refine XD_u rfl rfl ?_; refine XD_s rfl rfl rfl (XV_op tt_ok rfl) rfl ?_))) | refine XD_m rfl rfl ?_ | (refine XD_thaw thaw ?_; refine XD_l rfl rfl ?_)) | (refine X_id ?_; first | (refine X_drawS (id := 3) [0, 1, 2, 3, 4, 5, 6, 7, 8, 9, 10, 11, 12, 13, 14] (fun | 9 => .m | 10 => .m | 11 => .m | 14 => .l | _ => .s) 8 (by repeat' (first | exact Split.nil | apply Split.blk | apply Split.keep)) mixed (by decide +kernel) ?_; intro G hFG hM thaw; show XD _ _ _ _ _ _ [0, 1, 2, 3, 4, 5, 6, 7, 8, 9, 10, 11, 12, 13, 14] _ _ _) | refine X_seq ?_ | (refine X_regionN (by repeat' (first | exact .nil | apply NL.cons)) ?_) | refine X_ret ?_ | refine X_cond_t rfl ?_) | (refine Y_id ?_; first | refine Y_then ?_ | refine Y_m ?_ | refine Y_l ?_))
        all_goals first
          | exact Y_res3 rfl (.cell tt_ok 4 rfl rfl rfl rfl rfl) (.tmp rfl) (.tmp rfl) (stars_fin [5, 0] rfl (hmk _ _)) ⟨rfl, rfl⟩
          | skip
        
      · rw [if_neg hlt] at hfq
        cases hfq
  · rw [if_neg he] at hpk hft ⊢
    rw [if_neg he]
    repeat' (first | (refine XL_id ?_; first | refine XL_nil ?_ | (refine XG_load ?_; refine XL_loadW tt_ok 0 rfl rfl rfl rfl rfl rfl ?_) | (refine XG_call ?_; refine XL_fn hpk rfl rfl (fun g hg hL => ⟨blk_at 1 rfl hL, rd_at 2 rfl hL⟩) ?_) | (refine XG_alloc ?_; (refine XL_alloc tt_ok rfl rfl (fun _ => rfl) (fun b => ?_); refine XL_nB (by repeat' (first | exact .nil | apply NL.cons)) ?_)) | (refine XG_store ?_; first | (refine XL_storeW tt_ok 0 rfl rfl rfl rfl rfl rfl rfl ?_; refine XL_nK 0 rfl (by repeat' (first | exact .nil | apply NL.cons)) ?_) | (refine XL_storeW tt_ok 1 rfl rfl rfl rfl rfl rfl rfl ?_; refine XL_nK 1 rfl (by repeat' (first | exact .nil | apply NL.cons)) ?_)) | (refine XL_op tt_ok rfl rfl ?_)) | (refine X_id ?_; first | refine X_seq ?_ | (refine X_regionN (by repeat' (first | exact .nil | apply NL.cons)) ?_) | refine X_skip ?_ | refine X_ret ?_ | refine X_cond_f rfl ?_) | (refine Y_id ?_; refine Y_then ?_))
    all_goals first
      | exact Y_res3 rfl (.cell tt_ok 1 rfl rfl rfl rfl rfl) (.tmp rfl) (.tmp rfl) (stars_fin [2, 2] rfl fun h hh => ⟨(A, c), hok, hh⟩) ⟨rfl, rfl⟩
      | skip
    
theorem wo_neg (ys : List Tr) : wo ys (-1) = ys := if_neg (by decide)
set_option maxHeartbeats 8000000 in
theorem rfill_is (p : Nat) (n : Int) (ys : List Tr) (x : Tr) : Ctr Try.prog 40 [ptr p, trV x] (fun _ => True) [isRef p n ys] (fun v L => v = .int .i64 (fillE x) ∧ L = [isRef p n (fillT n ys x)]) := by
  refine Ctr.intro Try.func40 rfl rfl (by decide +kernel) fun F hpre => ?_
  refine X_openp 0 rfl (fun _ h => h) fun xa hok => ?_
  obtain ⟨A, c⟩ := xa
  have hn := hok.n1
  have hlen := hok.len
  have hn2 := hok.n2
  have hft := hok.fillT x
  have hask := rasked_spec p n A ys.length c x.a x.p (by omega)
  have hat := rat_spec p n A ys.length c ys x.a x.p (by omega)
  have hrl := rm_len x.a x.p ys
  unfold fillT at hft ⊢
  by_cases he : askE x.a x.p = 0
  · by_cases hfx : 0 ≤ x.f ∧ x.f < 4096
    · have hfe : fillE x = 0 := by unfold fillE; rw [if_pos he, if_pos hfx]
      rw [hfe, if_pos rfl] at hft ⊢
      rw [he] at hask
      generalize hz : (rm x.a x.p ys).take (n - 1).toNat = zs at hft ⊢
      have hzl : zs.length ≤ ys.length := by rw [← hz, List.length_take]; omega
      have hfro := fun (A2 : Option Addr) (c2 : Nat) => front_spec x A2 zs.length c2 zs (by omega)
      have hmk := fun (A2 : Option Addr) (c2 : Nat) => isRef_mk (p := p) (n := n) (A := A2) (c := c2) (m := zs.length + 1) (l := x :: zs) (x :: zs) hft (by rw [List.length_cons]) rfl
      by_cases hlt : firstQ (kB x.a x.p) ys < ys.length
      · rw [show idxI (kB x.a x.p) ys = (firstQ (kB x.a x.p) ys : Int) from if_pos hlt] at hat
        have hlr : (rm x.a x.p ys).length = ys.length - 1 := by rw [← erase_rm hok.uniq hlt, List.length_eraseIdx_of_lt hlt]
        have hzr : zs = rm x.a x.p ys := by rw [← hz]; exact List.take_of_length_le (by omega)
        have hwo := without_spec A ys.length c ys (firstQ (kB x.a x.p) ys : Int) (by omega)
        rw [wo_rm hok.uniq hlt, ← hzr] at hwo
        repeat' (first | (refine XL_id ?_; first | refine XL_nil ?_ | (refine XG_load ?_; refine XL_load tt_ok 0 rfl rfl rfl rfl rfl rfl ?_) | (refine XG_box ?_; (refine XL_box rfl (fun _ => rfl) (fun _ => ?_); refine XL_nB (by repeat' (first | exact .nil | apply NL.cons)) ?_)) | (refine XG_call ?_; first | (refine XL_fn hask rfl rfl (fun g hg hL => by exact blk_at 1 rfl hL) ?_) | refine XL_fn hat rfl rfl (fun g hg hL => ⟨blk_at 1 rfl hL, rd_at 2 rfl hL⟩) ?_ | (refine XL_callK [] hwo rfl rfl (fun _ => rfl) (fun g hg hL => rd_at 0 rfl hL) (fun u L hv => ?_); obtain ⟨A2, c2, rfl, rfl⟩ := hv) | (refine XL_callK [] (hfro _ _) rfl rfl (fun _ => rfl) (fun g hg hL => rd_at 0 rfl hL) (fun u L hv => ?_); obtain ⟨A3, c3, rfl, rfl⟩ := hv) | (refine XL_fn (within_spec _ _ _) rfl rfl (fun _ _ _ => trivial) ?_; refine XL_dec (fun _ => ?_) (fun _ => ?_))) | (refine XG_store ?_; (refine XL_store tt_ok 4 rfl rfl rfl rfl rfl rfl rfl rfl ?_; refine XL_nK 4 rfl (by repeat' (first | exact .nil | apply NL.cons)) ?_)) | (refine XL_op tt_ok rfl rfl ?_; try (refine XL_dec_f (by omega) ?_))) | (refine XD_id ?_; first | (refine XD_thaw thaw ?_; refine XD_nil ?_) | refine XD_nil ?_ | refine XD_no rfl rfl rfl rfl rfl rfl ?_ | (refine XD_id ?_; (first | (refine XD_uL rfl ?_; first | refine XD_s rfl rfl rfl (XV_loadW tt_ok rfl (blk_at 0 rfl hM) rfl rfl rfl) rfl ?_ | refine XD_s rfl rfl rfl (XV_load tt_ok rfl (blk_at 1 rfl hM) rfl rfl rfl) rfl ?_) | (refine XD_u rfl rfl ?_; refine XD_s rfl rfl rfl (XV_op tt_ok rfl) rfl ?_)); try (refine XD_dec_f (by omega) ?_)) | refine XD_m rfl rfl ?_ | (refine XD_thaw thaw ?_; refine XD_l rfl rfl ?_)) | (refine X_id ?_; first | (refine X_drawS (id := 7) [0, 1, 2, 3, 4, 5, 6, 7, 8, 9, 10, 11, 12, 13] (fun _ => .s) 8 (by (repeat apply Split.blk); apply Split.keep; repeat' (exact Split.nil)) mixed (by decide +kernel) ?_; intro G hFG hM thaw; show XD _ _ _ _ _ _ [0, 1, 2, 3, 4, 5, 6, 7, 8, 9, 10, 11, 12, 13] _ _ _) | (refine X_drawS (id := 9) [0, 1, 2, 3, 4, 5, 6, 7, 8, 9, 10, 11] (fun | 7 => .m | 8 => .m | 11 => .l | _ => .s) 8 (by repeat' (first | exact Split.nil | apply Split.blk | apply Split.keep)) mixed (by decide +kernel) ?_; intro G hFG hM thaw; show XD _ _ _ _ _ _ [0, 1, 2, 3, 4, 5, 6, 7, 8, 9, 10, 11] _ _ _) | refine X_seq ?_ | (refine X_regionN (by repeat' (first | exact .nil | apply NL.cons)) ?_) | refine X_skip ?_ | refine X_ret ?_ | refine X_cond_t rfl ?_ | refine X_cond_f rfl ?_) | (refine Y_id ?_; first | refine Y_then ?_ | refine Y_then_ret ?_ | refine Y_m ?_ | refine Y_l ?_))
        all_goals first
          | exact Y_ret1 rfl rfl (stars_fin [4, 0] rfl (hmk _ _)) ⟨rfl, rfl⟩
          | (exfalso; omega)
          | skip
        
      · rw [show idxI (kB x.a x.p) ys = -1 from if_neg hlt] at hat
        have hrn := rm_none hlt
        rw [hrn] at hz
        by_cases hfull : (ys.length : Int) = n
        · have hwo := without_spec A ys.length c ys (n - 1) (by omega)
          have hww : wo ys (n - 1) = zs := by
            unfold wo
            rw [if_pos (by omega), ← hz, List.eraseIdx_eq_take_drop_succ, List.drop_of_length_le (by omega), List.append_nil]
          rw [hww] at hwo
          repeat' (first | (refine XL_id ?_; first | refine XL_nil ?_ | (refine XG_load ?_; first | refine XL_load tt_ok 0 rfl rfl rfl rfl rfl rfl ?_ | refine XL_load tt_ok 2 rfl rfl rfl rfl rfl rfl ?_) | (refine XG_box ?_; (refine XL_box rfl (fun _ => rfl) (fun _ => ?_); refine XL_nB (by repeat' (first | exact .nil | apply NL.cons)) ?_)) | (refine XG_call ?_; first | (refine XL_fn hask rfl rfl (fun g hg hL => by exact blk_at 1 rfl hL) ?_) | refine XL_fn hat rfl rfl (fun g hg hL => ⟨blk_at 1 rfl hL, rd_at 2 rfl hL⟩) ?_ | (refine XL_callK [] hwo rfl rfl (fun _ => rfl) (fun g hg hL => rd_at 0 rfl hL) (fun u L hv => ?_); obtain ⟨A2, c2, rfl, rfl⟩ := hv) | (refine XL_callK [] (hfro _ _) rfl rfl (fun _ => rfl) (fun g hg hL => rd_at 0 rfl hL) (fun u L hv => ?_); obtain ⟨A3, c3, rfl, rfl⟩ := hv) | (refine XL_fn (within_spec _ _ _) rfl rfl (fun _ _ _ => trivial) ?_; refine XL_dec (fun _ => ?_) (fun _ => ?_))) | (refine XG_store ?_; (refine XL_store tt_ok 4 rfl rfl rfl rfl rfl rfl rfl rfl ?_; refine XL_nK 4 rfl (by repeat' (first | exact .nil | apply NL.cons)) ?_)) | (refine XL_op tt_ok rfl rfl ?_; try (first | refine XL_int (wrap_i64 (by omega) (by omega)) ?_ | refine XL_dec_f (by omega) ?_))) | (refine XD_id ?_; first | (refine XD_thaw thaw ?_; refine XD_nil ?_) | refine XD_nil ?_ | (refine XD_id ?_; (first | (refine XD_uL rfl ?_; first | refine XD_s rfl rfl rfl (XV_loadW tt_ok rfl (blk_at 0 rfl hM) rfl rfl rfl) rfl ?_ | refine XD_s rfl rfl rfl (XV_load tt_ok rfl (blk_at 1 rfl hM) rfl rfl rfl) rfl ?_) | (refine XD_gL rfl ?_; refine XD_sy rfl rfl rfl rfl rfl (XV_load tt_ok rfl (blk_at 1 rfl hM) rfl rfl rfl) rfl ?_) | (refine XD_u rfl rfl ?_; refine XD_s rfl rfl rfl (XV_op tt_ok rfl) rfl ?_) | (refine XD_g rfl rfl ?_; refine XD_sy rfl rfl rfl rfl rfl (XV_op tt_ok rfl) rfl ?_)); try (refine XD_dec_t (by omega) ?_)) | refine XD_m rfl rfl ?_ | (refine XD_thaw thaw ?_; refine XD_l rfl rfl ?_)) | (refine X_id ?_; first | (refine X_drawS (id := 7) [0, 1, 2, 3, 4, 5, 6, 7, 8, 9, 10, 11, 12, 13] (fun _ => .s) 8 (by (repeat apply Split.blk); apply Split.keep; repeat' (exact Split.nil)) mixed (by decide +kernel) ?_; intro G hFG hM thaw; show XD _ _ _ _ _ _ [0, 1, 2, 3, 4, 5, 6, 7, 8, 9, 10, 11, 12, 13] _ _ _) | (refine X_drawS (id := 9) [0, 1, 2, 3, 4, 5, 6, 7, 8, 9, 10, 11] (fun | 7 => .m | 8 => .m | 11 => .l | _ => .s) 8 (by repeat' (first | exact Split.nil | apply Split.blk | apply Split.keep)) mixed (by decide +kernel) ?_; intro G hFG hM thaw; show XD _ _ _ _ _ _ [0, 1, 2, 3, 4, 5, 6, 7, 8, 9, 10, 11] _ _ _) | refine X_seq ?_ | (refine X_regionN (by repeat' (first | exact .nil | apply NL.cons)) ?_) | refine X_skip ?_ | refine X_ret ?_ | refine X_cond_t rfl ?_ | refine X_cond_f rfl ?_) | (refine Y_id ?_; first | refine Y_then ?_ | refine Y_then_ret ?_ | refine Y_m ?_ | refine Y_l ?_))
          all_goals first
            | exact Y_ret1 rfl rfl (stars_fin [4, 0] rfl (hmk _ _)) ⟨rfl, rfl⟩
            | (exfalso; omega)
            | skip
          
        · have hwo := without_spec A ys.length c ys (-1) (by omega)
          have hww : ys = zs := by rw [← hz]; exact (List.take_of_length_le (by omega)).symm
          rw [wo_neg] at hwo
          rw [← hww] at hfro hmk ⊢
          repeat' (first | (refine XL_id ?_; first | refine XL_nil ?_ | (refine XG_load ?_; refine XL_load tt_ok 0 rfl rfl rfl rfl rfl rfl ?_) | (refine XG_box ?_; (refine XL_box rfl (fun _ => rfl) (fun _ => ?_); refine XL_nB (by repeat' (first | exact .nil | apply NL.cons)) ?_)) | (refine XG_call ?_; first | (refine XL_fn hask rfl rfl (fun g hg hL => by exact blk_at 1 rfl hL) ?_) | refine XL_fn hat rfl rfl (fun g hg hL => ⟨blk_at 1 rfl hL, rd_at 2 rfl hL⟩) ?_ | (refine XL_callK [] hwo rfl rfl (fun _ => rfl) (fun g hg hL => rd_at 0 rfl hL) (fun u L hv => ?_); obtain ⟨A2, c2, rfl, rfl⟩ := hv) | (refine XL_callK [] (hfro _ _) rfl rfl (fun _ => rfl) (fun g hg hL => rd_at 0 rfl hL) (fun u L hv => ?_); obtain ⟨A3, c3, rfl, rfl⟩ := hv) | (refine XL_fn (within_spec _ _ _) rfl rfl (fun _ _ _ => trivial) ?_; refine XL_dec (fun _ => ?_) (fun _ => ?_))) | (refine XG_store ?_; (refine XL_store tt_ok 4 rfl rfl rfl rfl rfl rfl rfl rfl ?_; refine XL_nK 4 rfl (by repeat' (first | exact .nil | apply NL.cons)) ?_)) | (refine XL_op tt_ok rfl rfl ?_; try (refine XL_dec_f (by omega) ?_))) | (refine XD_id ?_; first | (refine XD_thaw thaw ?_; refine XD_nil ?_) | refine XD_nil ?_ | (refine XD_id ?_; (first | (refine XD_uL rfl ?_; first | refine XD_s rfl rfl rfl (XV_loadW tt_ok rfl (blk_at 0 rfl hM) rfl rfl rfl) rfl ?_ | refine XD_s rfl rfl rfl (XV_load tt_ok rfl (blk_at 1 rfl hM) rfl rfl rfl) rfl ?_) | (refine XD_gL rfl ?_; refine XD_sy rfl rfl rfl rfl rfl (XV_load tt_ok rfl (blk_at 1 rfl hM) rfl rfl rfl) rfl ?_) | (refine XD_u rfl rfl ?_; refine XD_s rfl rfl rfl (XV_op tt_ok rfl) rfl ?_) | (refine XD_g rfl rfl ?_; refine XD_sy rfl rfl rfl rfl rfl (XV_op tt_ok rfl) rfl ?_)); try (first | refine XD_dec_t (by omega) ?_ | refine XD_dec_f (by omega) ?_)) | refine XD_m rfl rfl ?_ | (refine XD_thaw thaw ?_; refine XD_l rfl rfl ?_)) | (refine X_id ?_; first | (refine X_drawS (id := 7) [0, 1, 2, 3, 4, 5, 6, 7, 8, 9, 10, 11, 12, 13] (fun _ => .s) 8 (by (repeat apply Split.blk); apply Split.keep; repeat' (exact Split.nil)) mixed (by decide +kernel) ?_; intro G hFG hM thaw; show XD _ _ _ _ _ _ [0, 1, 2, 3, 4, 5, 6, 7, 8, 9, 10, 11, 12, 13] _ _ _) | (refine X_drawS (id := 9) [0, 1, 2, 3, 4, 5, 6, 7, 8, 9, 10, 11] (fun | 7 => .m | 8 => .m | 11 => .l | _ => .s) 8 (by repeat' (first | exact Split.nil | apply Split.blk | apply Split.keep)) mixed (by decide +kernel) ?_; intro G hFG hM thaw; show XD _ _ _ _ _ _ [0, 1, 2, 3, 4, 5, 6, 7, 8, 9, 10, 11] _ _ _) | refine X_seq ?_ | (refine X_regionN (by repeat' (first | exact .nil | apply NL.cons)) ?_) | refine X_skip ?_ | refine X_ret ?_ | refine X_cond_t rfl ?_ | refine X_cond_f rfl ?_) | (refine Y_id ?_; first | refine Y_then ?_ | refine Y_then_ret ?_ | refine Y_m ?_ | refine Y_l ?_))
          all_goals first
            | exact Y_ret1 rfl rfl (stars_fin [4, 0] rfl (hmk _ _)) ⟨rfl, rfl⟩
            | (exfalso; omega)
            | skip
          
    · have hfe : fillE x = 2 := by unfold fillE; rw [if_pos he, if_neg hfx]
      rw [hfe, if_neg (by decide)]
      rw [he] at hask
      repeat' (first | (refine XL_id ?_; first | refine XL_nil ?_ | (refine XG_load ?_; refine XL_load tt_ok 0 rfl rfl rfl rfl rfl rfl ?_) | (refine XG_box ?_; (refine XL_box rfl (fun _ => rfl) (fun _ => ?_); refine XL_nB (by repeat' (first | exact .nil | apply NL.cons)) ?_)) | (refine XG_call ?_; first | (refine XL_fn hask rfl rfl (fun g hg hL => by exact blk_at 1 rfl hL) ?_) | (refine XL_fn (within_spec _ _ _) rfl rfl (fun _ _ _ => trivial) ?_; refine XL_dec (fun _ => ?_) (fun _ => ?_))) | (refine XL_op tt_ok rfl rfl ?_; try (refine XL_dec_f (by omega) ?_))) | (refine X_id ?_; first | refine X_seq ?_ | (refine X_regionN (by repeat' (first | exact .nil | apply NL.cons)) ?_) | refine X_skip ?_ | refine X_ret ?_ | refine X_cond_t rfl ?_ | refine X_cond_f rfl ?_) | (refine Y_id ?_; first | refine Y_then ?_ | refine Y_then_ret ?_))
      all_goals first
        | exact Y_ret1 rfl rfl (stars_fin [1, 1] rfl fun h hh => ⟨(A, c), hok, hh⟩) ⟨rfl, rfl⟩
        | (exfalso; omega)
        | skip
      
  · have hfe : fillE x = askE x.a x.p := by unfold fillE; rw [if_neg he]
    rw [hfe, if_neg he]
    repeat' (first | (refine XL_id ?_; first | refine XL_nil ?_ | (refine XG_load ?_; refine XL_load tt_ok 0 rfl rfl rfl rfl rfl rfl ?_) | (refine XG_box ?_; (refine XL_box rfl (fun _ => rfl) (fun _ => ?_); refine XL_nB (by repeat' (first | exact .nil | apply NL.cons)) ?_)) | (refine XG_call ?_; (refine XL_fn hask rfl rfl (fun g hg hL => by exact blk_at 1 rfl hL) ?_)) | (refine XL_op tt_ok rfl rfl ?_; try (refine XL_dec_t (by omega) ?_))) | (refine X_id ?_; first | refine X_seq ?_ | (refine X_regionN (by repeat' (first | exact .nil | apply NL.cons)) ?_) | refine X_ret ?_ | refine X_cond_t rfl ?_) | (refine Y_id ?_; first | refine Y_then ?_ | refine Y_then_ret ?_))
    all_goals first
      | exact Y_ret1 rfl rfl (stars_fin [1, 1] rfl fun h hh => ⟨(A, c), hok, hh⟩) ⟨rfl, rfl⟩
      | skip
    
end Go.Proofs.Ytocilbkjbikeeaa
