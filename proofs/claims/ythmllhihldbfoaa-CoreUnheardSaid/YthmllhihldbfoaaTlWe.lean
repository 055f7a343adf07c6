/- Walks of the program's TLB, on: Fill, Mark, drop, Drop, DropAll, Empty, All. -/
import Derived.Test.YthmllhihldbfoaaTlWd
set_option linter.unusedVariables false
namespace Go.Proofs.Ythmllhihldbfoaa.Tl
open Go.RowKit Go.Cof

set_option maxHeartbeats 8000000 in
theorem fill_is (p : Nat) (n : Int) (ys : List Tr) (x : Tr) : Ctr Try.prog 15 [ptr p, trV x] (fun _ => True) [isTlb p n ys] (fun v L => v = .int .i64 (fillE x) ∧ L = [isTlb p n (fillT n ys x)]) := by
  refine Ctr.intro Try.func15 rfl rfl (by decide +kernel) fun F hpre => ?_
  refine X_openp 0 rfl (fun _ h => h) fun xa hok => ?_
  obtain ⟨A, c⟩ := xa
  have hn := hok.n1
  have hlen := hok.len
  have hn2 := hok.n2
  have hft := hok.fillT x
  have hask := asked_spec p n A ys.length c x.a x.p (by omega)
  have hat := at_spec p n A ys.length c ys.reverse x.a x.p (by omega)
  have hrl : ys.reverse.length = ys.length := List.length_reverse
  unfold fillT at hft ⊢
  by_cases he : askE x.a x.p = 0
  · by_cases hfx : 0 ≤ x.f ∧ x.f < 4096
    · have hfe : fillE x = 0 := by unfold fillE; rw [if_pos he, if_pos hfx]
      rw [hfe, if_pos rfl] at hft ⊢
      rw [he] at hask
      by_cases hlt : firstQ (kB x.a x.p) ys.reverse < ys.reverse.length
      · rw [show idxI (kB x.a x.p) ys.reverse = (firstQ (kB x.a x.p) ys.reverse : Int) from if_pos hlt] at hat
        have her := erase_rm hok.uniq.reverse hlt
        rw [rm_reverse] at her
        have hrml := congrArg List.length her
        rw [List.length_eraseIdx_of_lt hlt, List.length_reverse, List.length_reverse] at hrml
        have htk : (rm x.a x.p ys).take (n - 1).toNat = rm x.a x.p ys := List.take_of_length_le (by omega)
        rw [htk] at hft ⊢
        have hmk := fun (A2 : Option Addr) (c2 : Nat) => isTlb_mk (p := p) (n := n) (A := A2) (c := c2) (m := ys.length - 1 + 1) (l := ys.reverse.eraseIdx (firstQ (kB x.a x.p) ys.reverse) ++ [x]) (x :: rm x.a x.p ys) hft (by rw [List.length_cons]; omega) (by rw [her, List.reverse_cons])
        refine X_fact 1 rfl (fun _ o => own_some o (by omega)) fun hq2 => ?_
        obtain ⟨bq, rfl⟩ := hq2
        repeat' (first | (refine XL_id ?_; first | refine XL_nil ?_ | refine XL_guard_yes rfl rfl rfl ?_ | (refine XG_load ?_; first | refine XL_loadW tt_ok 0 rfl rfl rfl rfl rfl rfl ?_ | refine XL_load tt_ok 0 rfl rfl rfl rfl rfl rfl ?_ | refine XL_load tt_ok 2 rfl rfl rfl rfl rfl rfl ?_) | (refine XG_box ?_; (refine XL_box rfl (fun _ => rfl) (fun _ => ?_); refine XL_nB (by repeat' (first | exact .nil | apply NL.cons)) ?_)) | (refine XG_call ?_; first | refine XL_fn (of_spec x) rfl rfl (fun _ _ _ => trivial) ?_ | (refine XL_fn hask rfl rfl (fun g hg hL => by exact blk_at 1 rfl hL) ?_) | refine XL_fn hat rfl rfl (fun g hg hL => ⟨blk_at 1 rfl hL, rd_at 2 rfl hL⟩) ?_ | (refine XL_callE [0] (delete_spec bq ys.length c ys.reverse (firstQ (kB x.a x.p) ys.reverse) (by omega) (by omega)) rfl rfl rfl (fun _ _ _ => trivial) ?_) | (refine XL_app1 tt_ok 1 0 x rfl rfl rfl rfl rfl rfl rfl rfl rfl rfl rfl (by show (_ : Nat) * 32 ≤ _; omega) (by omega) (fun _ _ => rfl) (fun A2 c2 => ?_))) | (refine XG_lit ?_; (refine XL_lit tt_ok rfl rfl rfl rfl rfl rfl rfl rfl rfl (fun _ => rfl) (fun b => ?_); refine XL_nB (by repeat' (first | exact .nil | apply NL.cons)) ?_)) | (refine XG_store ?_; first | (refine XL_store tt_ok 2 rfl rfl rfl rfl rfl rfl rfl rfl ?_; refine XL_nK 2 rfl (by repeat' (first | exact .nil | apply NL.cons)) ?_) | (refine XL_store tt_ok 3 rfl rfl rfl rfl rfl rfl rfl rfl ?_; refine XL_nK 3 rfl (by repeat' (first | exact .nil | apply NL.cons)) ?_)) | (refine XL_op tt_ok rfl rfl ?_; try (first | refine XL_int (wrap_i64 (by omega) (by omega)) ?_ | refine XL_dec_t (by omega) ?_ | refine XL_dec_f (by omega) ?_))) | (refine XD_id ?_; first | (refine XD_thaw thaw ?_; refine XD_nil ?_) | refine XD_nil ?_ | refine XD_no rfl rfl rfl rfl rfl rfl ?_ | (refine XD_id ?_; (first | (refine XD_uL rfl ?_; first | refine XD_s rfl rfl rfl (XV_loadW tt_ok rfl (blk_at 0 rfl hM) rfl rfl rfl) rfl ?_ | refine XD_s rfl rfl rfl (XV_load tt_ok rfl (blk_at 1 rfl hM) rfl rfl rfl) rfl ?_) | (refine XD_u rfl rfl ?_; refine XD_s rfl rfl rfl (XV_op tt_ok rfl) rfl ?_)); try (refine XD_dec_f (by omega) ?_)) | refine XD_m rfl rfl ?_ | (refine XD_thaw thaw ?_; refine XD_l rfl rfl ?_)) | (refine X_id ?_; first | (refine X_drawS (id := 7) [0, 1, 2, 3, 4, 5, 6, 7, 8, 9, 10, 11, 12, 13] (fun _ => .s) 8 (by (repeat apply Split.blk); apply Split.keep; repeat' (exact Split.nil)) mixed (by decide +kernel) ?_; intro G hFG hM thaw; show XD _ _ _ _ _ _ [0, 1, 2, 3, 4, 5, 6, 7, 8, 9, 10, 11, 12, 13] _ _ _) | (refine X_drawS (id := 11) [0, 1, 2, 3, 4, 5, 6, 7, 8, 9, 10] (fun | 6 => .m | 7 => .m | 10 => .l | _ => .s) 8 (by (repeat apply Split.blk); apply Split.keep; repeat' (first | exact Split.nil | apply Split.blk)) mixed (by decide +kernel) ?_; intro G hFG hM thaw; show XD _ _ _ _ _ _ [0, 1, 2, 3, 4, 5, 6, 7, 8, 9, 10] _ _ _) | refine X_seq ?_ | (refine X_regionN (by repeat' (first | exact .nil | apply NL.cons)) ?_) | refine X_skip ?_ | refine X_ret ?_ | refine X_cond_t rfl ?_ | refine X_cond_f rfl ?_) | (refine Y_id ?_; first | refine Y_then ?_ | refine Y_m ?_ | refine Y_l ?_))
        all_goals first
          | exact Y_ret1 rfl rfl (stars_fin [3, 1] rfl (hmk _ _)) ⟨rfl, rfl⟩
          | skip
        
      · rw [show idxI (kB x.a x.p) ys.reverse = -1 from if_neg hlt] at hat
        have hrn := rm_none hlt
        rw [rm_reverse] at hrn
        have hrn : rm x.a x.p ys = ys := by have := congrArg List.reverse hrn; rwa [List.reverse_reverse, List.reverse_reverse] at this
        rw [hrn] at hft ⊢
        by_cases hfull : (ys.length : Int) = n
        · have hmk := fun (A2 : Option Addr) (c2 : Nat) => isTlb_mk (p := p) (n := n) (A := A2) (c := c2) (m := ys.length - 1 + 1) (l := ys.reverse.eraseIdx 0 ++ [x]) (x :: ys.take (n - 1).toNat) hft (by rw [List.length_cons, List.length_take]; omega) (by
            rw [List.reverse_cons, List.reverse_take, List.eraseIdx_zero]
            congr 1
            rw [show ys.length - (n - 1).toNat = 1 from by omega, List.drop_one])
          refine X_fact 1 rfl (fun _ o => own_some o (by omega)) fun hq2 => ?_
          obtain ⟨bq, rfl⟩ := hq2
          repeat' (first | (refine XL_id ?_; first | refine XL_nil ?_ | refine XL_guard_yes rfl rfl rfl ?_ | (refine XG_load ?_; first | refine XL_loadW tt_ok 0 rfl rfl rfl rfl rfl rfl ?_ | refine XL_load tt_ok 0 rfl rfl rfl rfl rfl rfl ?_ | refine XL_load tt_ok 2 rfl rfl rfl rfl rfl rfl ?_) | (refine XG_box ?_; (refine XL_box rfl (fun _ => rfl) (fun _ => ?_); refine XL_nB (by repeat' (first | exact .nil | apply NL.cons)) ?_)) | (refine XG_call ?_; first | refine XL_fn (of_spec x) rfl rfl (fun _ _ _ => trivial) ?_ | (refine XL_fn hask rfl rfl (fun g hg hL => by exact blk_at 1 rfl hL) ?_) | refine XL_fn hat rfl rfl (fun g hg hL => ⟨blk_at 1 rfl hL, rd_at 2 rfl hL⟩) ?_ | refine XL_callE [0] (delete_spec bq ys.length c ys.reverse 0 (by omega) (by omega)) rfl rfl rfl (fun _ _ _ => trivial) ?_ | (refine XL_app1 tt_ok 1 0 x rfl rfl rfl rfl rfl rfl rfl rfl rfl rfl rfl (by show (_ : Nat) * 32 ≤ _; omega) (by omega) (fun _ _ => rfl) (fun A2 c2 => ?_))) | (refine XG_lit ?_; (refine XL_lit tt_ok rfl rfl rfl rfl rfl rfl rfl rfl rfl (fun _ => rfl) (fun b => ?_); refine XL_nB (by repeat' (first | exact .nil | apply NL.cons)) ?_)) | (refine XG_store ?_; first | (refine XL_store tt_ok 2 rfl rfl rfl rfl rfl rfl rfl rfl ?_; refine XL_nK 2 rfl (by repeat' (first | exact .nil | apply NL.cons)) ?_) | (refine XL_store tt_ok 3 rfl rfl rfl rfl rfl rfl rfl rfl ?_; refine XL_nK 3 rfl (by repeat' (first | exact .nil | apply NL.cons)) ?_)) | (refine XL_op tt_ok rfl rfl ?_; try (first | refine XL_int (wrap_i64 (by omega) (by omega)) ?_ | refine XL_dec_t (by omega) ?_ | refine XL_dec_f (by omega) ?_))) | (refine XD_id ?_; first | (refine XD_thaw thaw ?_; refine XD_nil ?_) | refine XD_nil ?_ | (refine XD_id ?_; (first | (refine XD_uL rfl ?_; first | refine XD_s rfl rfl rfl (XV_loadW tt_ok rfl (blk_at 0 rfl hM) rfl rfl rfl) rfl ?_ | refine XD_s rfl rfl rfl (XV_load tt_ok rfl (blk_at 1 rfl hM) rfl rfl rfl) rfl ?_) | (refine XD_gL rfl ?_; refine XD_sy rfl rfl rfl rfl rfl (XV_load tt_ok rfl (blk_at 1 rfl hM) rfl rfl rfl) rfl ?_) | (refine XD_u rfl rfl ?_; refine XD_s rfl rfl rfl (XV_op tt_ok rfl) rfl ?_) | (refine XD_g rfl rfl ?_; refine XD_sy rfl rfl rfl rfl rfl (XV_op tt_ok rfl) rfl ?_)); try (refine XD_dec_t (by omega) ?_)) | refine XD_m rfl rfl ?_ | (refine XD_thaw thaw ?_; refine XD_l rfl rfl ?_)) | (refine X_id ?_; first | (refine X_drawS (id := 7) [0, 1, 2, 3, 4, 5, 6, 7, 8, 9, 10, 11, 12, 13] (fun _ => .s) 8 (by (repeat apply Split.blk); apply Split.keep; repeat' (exact Split.nil)) mixed (by decide +kernel) ?_; intro G hFG hM thaw; show XD _ _ _ _ _ _ [0, 1, 2, 3, 4, 5, 6, 7, 8, 9, 10, 11, 12, 13] _ _ _) | (refine X_drawS (id := 11) [0, 1, 2, 3, 4, 5, 6, 7, 8, 9, 10] (fun | 6 => .m | 7 => .m | 10 => .l | _ => .s) 8 (by (repeat apply Split.blk); apply Split.keep; repeat' (first | exact Split.nil | apply Split.blk)) mixed (by decide +kernel) ?_; intro G hFG hM thaw; show XD _ _ _ _ _ _ [0, 1, 2, 3, 4, 5, 6, 7, 8, 9, 10] _ _ _) | refine X_seq ?_ | (refine X_regionN (by repeat' (first | exact .nil | apply NL.cons)) ?_) | refine X_skip ?_ | refine X_ret ?_ | refine X_cond_t rfl ?_ | refine X_cond_f rfl ?_) | (refine Y_id ?_; first | refine Y_then ?_ | refine Y_m ?_ | refine Y_l ?_))
          all_goals first
            | exact Y_ret1 rfl rfl (stars_fin [3, 1] rfl (hmk _ _)) ⟨rfl, rfl⟩
            | (exfalso; omega)
            | skip
          
        · have htk : ys.take (n - 1).toNat = ys := List.take_of_length_le (by omega)
          rw [htk] at hft ⊢
          have hmk := fun (A2 : Option Addr) (c2 : Nat) => isTlb_mk (p := p) (n := n) (A := A2) (c := c2) (m := ys.length + 1) (l := ys.reverse ++ [x]) (x :: ys) hft (by rw [List.length_cons]) (by rw [List.reverse_cons])
          repeat' (first | (refine XL_id ?_; first | refine XL_nil ?_ | refine XL_guard_yes rfl rfl rfl ?_ | (refine XG_load ?_; first | refine XL_loadW tt_ok 0 rfl rfl rfl rfl rfl rfl ?_ | refine XL_load tt_ok 0 rfl rfl rfl rfl rfl rfl ?_) | (refine XG_box ?_; (refine XL_box rfl (fun _ => rfl) (fun _ => ?_); refine XL_nB (by repeat' (first | exact .nil | apply NL.cons)) ?_)) | (refine XG_call ?_; first | refine XL_fn (of_spec x) rfl rfl (fun _ _ _ => trivial) ?_ | (refine XL_fn hask rfl rfl (fun g hg hL => by exact blk_at 1 rfl hL) ?_) | refine XL_fn hat rfl rfl (fun g hg hL => ⟨blk_at 1 rfl hL, rd_at 2 rfl hL⟩) ?_ | (refine XL_app1 tt_ok 1 0 x rfl rfl rfl rfl rfl rfl rfl rfl rfl rfl rfl (by show (_ : Nat) * 32 ≤ _; omega) (by omega) (fun _ _ => rfl) (fun A2 c2 => ?_))) | (refine XG_lit ?_; (refine XL_lit tt_ok rfl rfl rfl rfl rfl rfl rfl rfl rfl (fun _ => rfl) (fun b => ?_); refine XL_nB (by repeat' (first | exact .nil | apply NL.cons)) ?_)) | (refine XG_store ?_; (refine XL_store tt_ok 3 rfl rfl rfl rfl rfl rfl rfl rfl ?_; refine XL_nK 3 rfl (by repeat' (first | exact .nil | apply NL.cons)) ?_)) | (refine XL_op tt_ok rfl rfl ?_; try (refine XL_dec_f (by omega) ?_))) | (refine XD_id ?_; first | (refine XD_thaw thaw ?_; refine XD_nil ?_) | refine XD_nil ?_ | (refine XD_id ?_; (first | (refine XD_uL rfl ?_; first | refine XD_s rfl rfl rfl (XV_loadW tt_ok rfl (blk_at 0 rfl hM) rfl rfl rfl) rfl ?_ | refine XD_s rfl rfl rfl (XV_load tt_ok rfl (blk_at 1 rfl hM) rfl rfl rfl) rfl ?_) | (refine XD_gL rfl ?_; refine XD_sy rfl rfl rfl rfl rfl (XV_load tt_ok rfl (blk_at 1 rfl hM) rfl rfl rfl) rfl ?_) | (refine XD_u rfl rfl ?_; refine XD_s rfl rfl rfl (XV_op tt_ok rfl) rfl ?_) | (refine XD_g rfl rfl ?_; refine XD_sy rfl rfl rfl rfl rfl (XV_op tt_ok rfl) rfl ?_)); try (first | refine XD_dec_t (by omega) ?_ | refine XD_dec_f (by omega) ?_)) | refine XD_m rfl rfl ?_ | (refine XD_thaw thaw ?_; refine XD_l rfl rfl ?_)) | (refine X_id ?_; first | (refine X_drawS (id := 7) [0, 1, 2, 3, 4, 5, 6, 7, 8, 9, 10, 11, 12, 13] (fun _ => .s) 8 (by (repeat apply Split.blk); apply Split.keep; repeat' (exact Split.nil)) mixed (by decide +kernel) ?_; intro G hFG hM thaw; show XD _ _ _ _ _ _ [0, 1, 2, 3, 4, 5, 6, 7, 8, 9, 10, 11, 12, 13] _ _ _) | (refine X_drawS (id := 11) [0, 1, 2, 3, 4, 5, 6, 7, 8, 9, 10] (fun | 6 => .m | 7 => .m | 10 => .l | _ => .s) 8 (by (repeat apply Split.blk); apply Split.keep; repeat' (first | exact Split.nil | apply Split.blk)) mixed (by decide +kernel) ?_; intro G hFG hM thaw; show XD _ _ _ _ _ _ [0, 1, 2, 3, 4, 5, 6, 7, 8, 9, 10] _ _ _) | refine X_seq ?_ | (refine X_regionN (by repeat' (first | exact .nil | apply NL.cons)) ?_) | refine X_skip ?_ | refine X_ret ?_ | refine X_cond_f rfl ?_) | (refine Y_id ?_; first | refine Y_then ?_ | refine Y_m ?_ | refine Y_l ?_))
          all_goals first
            | exact Y_ret1 rfl rfl (stars_fin [3, 1] rfl (hmk _ _)) ⟨rfl, rfl⟩
            | (exfalso; omega)
            | skip
          
    · have hfe : fillE x = 2 := by unfold fillE; rw [if_pos he, if_neg hfx]
      rw [hfe, if_neg (by decide)]
      rw [he] at hask
      repeat' (first | (refine XL_id ?_; first | refine XL_nil ?_ | refine XL_guard_yes rfl rfl rfl ?_ | refine XL_guard_no rfl rfl rfl rfl rfl ?_ | (refine XG_load ?_; first | refine XL_loadW tt_ok 0 rfl rfl rfl rfl rfl rfl ?_ | refine XL_load tt_ok 0 rfl rfl rfl rfl rfl rfl ?_) | (refine XG_box ?_; (refine XL_box rfl (fun _ => rfl) (fun _ => ?_); refine XL_nB (by repeat' (first | exact .nil | apply NL.cons)) ?_)) | (refine XG_call ?_; first | refine XL_fn (of_spec x) rfl rfl (fun _ _ _ => trivial) ?_ | (refine XL_fn hask rfl rfl (fun g hg hL => by exact blk_at 1 rfl hL) ?_)) | (refine XL_op tt_ok rfl rfl ?_; try (first | refine XL_dec_t (by omega) ?_ | refine XL_dec_f (by omega) ?_ | refine XL_dec (fun _ => ?_) (fun _ => ?_)))) | (refine X_id ?_; first | refine X_seq ?_ | (refine X_regionN (by repeat' (first | exact .nil | apply NL.cons)) ?_) | refine X_skip ?_ | refine X_ret ?_ | refine X_cond_t rfl ?_ | refine X_cond_f rfl ?_) | (refine Y_id ?_; first | refine Y_then ?_ | refine Y_then_ret ?_))
      all_goals first
        | exact Y_ret1 rfl rfl (stars_fin [1, 1] rfl fun h hh => ⟨(A, c), hok, hh⟩) ⟨rfl, rfl⟩
        | (exfalso; omega)
        | skip
      
  · have hfe : fillE x = askE x.a x.p := by unfold fillE; rw [if_neg he]
    rw [hfe, if_neg he]
    repeat' (first | (refine XL_id ?_; first | refine XL_nil ?_ | (refine XG_load ?_; refine XL_loadW tt_ok 0 rfl rfl rfl rfl rfl rfl ?_) | (refine XG_box ?_; (refine XL_box rfl (fun _ => rfl) (fun _ => ?_); refine XL_nB (by repeat' (first | exact .nil | apply NL.cons)) ?_)) | (refine XG_call ?_; first | refine XL_fn (of_spec x) rfl rfl (fun _ _ _ => trivial) ?_ | (refine XL_fn hask rfl rfl (fun g hg hL => by exact blk_at 1 rfl hL) ?_)) | (refine XL_op tt_ok rfl rfl ?_; try (refine XL_dec_t (by omega) ?_))) | (refine X_id ?_; first | refine X_seq ?_ | (refine X_regionN (by repeat' (first | exact .nil | apply NL.cons)) ?_) | refine X_ret ?_ | refine X_cond_t rfl ?_) | (refine Y_id ?_; first | refine Y_then ?_ | refine Y_then_ret ?_))
    all_goals first
      | exact Y_ret1 rfl rfl (stars_fin [1, 1] rfl fun h hh => ⟨(A, c), hok, hh⟩) ⟨rfl, rfl⟩
      | skip
    
theorem drop_is (p : Nat) (n : Int) (ys : List Tr) (f : FuncId) (ca : Array Value) (pre : Hp → Prop) (q : Tr → Bool) (hup : ∀ h g, Hp.le h g → pre h → pre g) (hq : ∀ x, FnC Try.prog f (trV x :: ca.toList) pre (.bool (q x))) :
    Ctr Try.prog 49 [ptr p, fnV f ca] pre [isTlb p n ys] (fun v L => v = .int .i64 ((ys.length : Int) - (ys.filter fun x => !q x).length) ∧ L = [isTlb p n (ys.filter fun x => !q x)]) := by
  refine Ctr.intro Try.func49 rfl rfl (by decide +kernel) fun F hpre => ?_
  refine X_openp 0 rfl (fun _ h => h) fun xa hok => ?_
  obtain ⟨A, c⟩ := xa
  have hlen := hok.len
  have hn2 := hok.n2
  have hdf := deleteFunc_spec A ys.length c ys.reverse f ca pre q (by omega) hup hq
  have hfl := List.length_filter_le (fun x => !q x) ys
  rw [List.filter_reverse, List.length_reverse] at hdf
  repeat' (first | (refine XL_id ?_; first | refine XL_nil ?_ | (refine XG_load ?_; first | refine XL_load tt_ok 0 rfl rfl rfl rfl rfl rfl ?_ | refine XL_load tt_ok 1 rfl rfl rfl rfl rfl rfl ?_) | (refine XG_call ?_; first | (refine XL_op tt_ok rfl rfl ?_) | refine XL_callE [1] hdf rfl rfl rfl (fun g hg _ => hup _ _ hg hpre) ?_) | (refine XG_store ?_; (refine XL_store tt_ok 1 rfl rfl rfl rfl rfl rfl rfl rfl ?_; refine XL_nK 1 rfl (by repeat' (first | exact .nil | apply NL.cons)) ?_)) | (refine XL_op tt_ok rfl rfl ?_; try (refine XL_int (wrap_i64 (by omega) (by omega)) ?_))) | (refine X_id ?_; first | refine X_seq ?_ | (refine X_regionN (by repeat' (first | exact .nil | apply NL.cons)) ?_) | refine X_ret ?_) | (refine Y_id ?_; refine Y_then ?_))
  all_goals first
    | exact Y_ret1 rfl rfl (stars_fin [1, 0] rfl (isTlb_mk _ (hok.filter _) rfl rfl)) ⟨rfl, rfl⟩
    | skip
  
theorem onTlb {f : FuncId} {args : List Value} {r : Value} {p : Nat} {n : Int} {ys : List Tr} (hc : Callable Try.prog f) (h : ∀ A c, TOk n ys → FnC Try.prog f args (fun g => tlbB p n A ys.length c g ∧ rdS encTr g A ys.length ys.reverse) r) : Ctr Try.prog f args (fun _ => True) [isTlb p n ys] (fun v L => v = r ∧ L = [isTlb p n ys]) := by
  refine ⟨hc, fun F w _ hs => ?_⟩
  obtain ⟨g, h1, h2, h3⟩ := hs.own
  obtain ⟨k1, k2, d', a', b', ⟨x, hok, hx⟩, hR⟩ := h3
  have hs2 : St F w [tlbB p n x.1 ys.length x.2, own encTr x.1 ys.length x.2 ys.reverse] := ⟨hs.os, hs.tape, hs.output, hs.size, hs.frz, g, h1, h2, stars_up hx a'⟩
  refine (Ctr.call (A := []) (R := [tlbB p n x.1 ys.length x.2, own encTr x.1 ys.length x.2 ys.reverse]) (h x.1 x.2 hok) hs2 (fun g hg hL => ⟨blk_at 0 rfl hL, rd_at 1 rfl hL⟩)).mono fun e w' ⟨v, L', he, ⟨hv, hL⟩, hs'⟩ => ⟨v, _, he, ⟨hv, rfl⟩, ?_⟩
  subst hL
  exact hs'.imp (stars_fin [0, 0] rfl fun h hh => ⟨x, hok, hh⟩)
theorem asked_is (p : Nat) (n : Int) (ys : List Tr) (a pg : Int) : Ctr Try.prog 33 [ptr p, kyV a pg] (fun _ => True) [isTlb p n ys] (fun v L => v = .int .i64 (askE a pg) ∧ L = [isTlb p n ys]) :=
  onTlb (asked_spec p 1 none 0 0 a pg (by decide)).1 fun A c hok => Ctr.mono (asked_spec p n A ys.length c a pg (by have := hok.n1; omega)) (fun g hg => hg.1) fun v L hv => ⟨L, hv, fun _ h => h⟩
theorem empty_is (p : Nat) (n : Int) (ys : List Tr) : Ctr Try.prog 31 [ptr p] (fun _ => True) [isTlb p n ys] (fun v L => v = .tuple #[.int .i64 (ys.length : Int), .int .i64 0] ∧ L = [isTlb p n []]) := by
  have hdr := drop_is p n ys 50 #[] (fun _ => True) (fun _ => true) (fun _ _ _ _ => trivial) (fun x => closE_spec x)
  have hask := asked_is p n ys 0 0
  have hda : (ys.filter fun x => !(fun _ : Tr => true) x) = [] := by rw [List.filter_eq_nil_iff]; simp
  rw [hda] at hdr
  rw [show ((ys.length : Int) - (([] : List Tr).length : Nat)) = ys.length from by simp] at hdr
  rw [show askE 0 0 = 0 from by decide] at hask
  refine Ctr.intro Try.func31 rfl rfl (by decide +kernel) fun F hpre => ?_
  repeat' (first | (refine XL_id ?_; first | refine XL_nil ?_ | (refine XG_build ?_; (refine XL_build tt_ok rfl rfl rfl rfl rfl rfl rfl ?_; refine XL_aggN (by repeat' (first | exact .nil | apply NL.cons)) ?_)) | (refine XG_call ?_; first | refine XL_callE [0] hask rfl rfl rfl (fun _ _ _ => trivial) ?_ | refine XL_callE [0] hdr rfl rfl rfl (fun _ _ _ => trivial) ?_) | (refine XL_op tt_ok rfl rfl ?_; try (refine XL_dec_f (by omega) ?_))) | (refine X_id ?_; first | refine X_seq ?_ | (refine X_regionN (by repeat' (first | exact .nil | apply NL.cons)) ?_) | refine X_skip ?_ | refine X_ret ?_ | refine X_cond_f rfl ?_) | (refine Y_id ?_; refine Y_then ?_))
  all_goals first
    | exact Y_ret2 rfl rfl rfl (stars_fin1 0 rfl) ⟨rfl, rfl⟩
    | (exfalso; omega)
    | skip
  
end Go.Proofs.Ythmllhihldbfoaa.Tl
