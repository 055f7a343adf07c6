/- Free, Whole, Lists. -/
import Derived.Test.YtkcpjgdmfjhlkaaWc
set_option linter.unusedVariables false
namespace Go.Proofs.Ytkcpjgdmfjhlkaa
open Go.RowKit Go.Cof

theorem shl_f {o P x : Nat} (h : o ≤ 6) (hP : 2 ^ o = P) (hx : x ≤ 4096) : IntKind.i64.wrap ((x : Int) * 2 ^ min ((o : Nat) : Int).toNat IntKind.i64.bits) = ((x * P : Nat) : Int) := by
  subst hP
  have e : min ((o : Nat) : Int).toNat IntKind.i64.bits = o := by
    have : IntKind.i64.bits = 64 := rfl
    rw [this, Int.toNat_natCast]; omega
  rw [e]
  have h1 : 2 ^ o ≤ 64 := Nat.pow_le_pow_right (n := 2) (by decide) h
  have h2 : x * 2 ^ o ≤ 4096 * 64 := Nat.mul_le_mul hx h1
  have h3 : (x : Int) * 2 ^ o = ((x * 2 ^ o : Nat) : Int) := by simp
  rw [h3]
  exact wrap_i64 (by omega) (by omega)
theorem arr_ix {n : Nat} {ss : List (In Int)} {mb k : Nat} (hk : k < 7) : ((List.take 7 (List.drop (0 + 2) (bdL n ss mb))).toArray.toList)[((k : Nat) : Int).toNat * 1]? = some (slV (Cof.get ss (k : Int))) := by
  match k, hk with
  | 0, _ => rfl
  | 1, _ => rfl
  | 2, _ => rfl
  | 3, _ => rfl
  | 4, _ => rfl
  | 5, _ => rfl
  | 6, _ => rfl
set_option maxHeartbeats 4000000 in
theorem free_spec (p n : Nat) (op : List Bool) (fs : List (List Int)) (tk : Int → Option Int) (y : Sq) (hok : y.Ok fs) (hn : op.length ≤ 4096) (hb : BOk op fs) : FnC Try.prog 16 [ptr p] (fun g => stars (bdM p n tk y) g) (iV (cntB op)) := by
  refine Ctr.intro Try.func16 rfl rfl (by decide +kernel) fun F hpre => ?_
  have hbk : blk p (bdL n y.ss y.mb) 57 F.heap := blk_at 0 rfl hpre
  repeat' (first | (refine XL_id ?_; first | refine XL_nil ?_ | (refine XG_load ?_; refine XL_loadF tt_ok rfl (by assumption) rfl rfl rfl rfl ?_) | (refine XG_call ?_; refine XL_fn (none_spec p n y.ss y.mb) rfl rfl (fun g hg hL => blk_le hbk hg) ?_) | (refine XL_op tt_ok rfl rfl ?_)) | (refine X_id ?_; first | refine X_block (id := 0) (hold ?_) | refine X_seq ?_ | (refine X_regionN (by repeat' (exact .nil)) ?_) | refine X_skip ?_ | refine X_cond_f rfl ?_) | (refine Y_id ?_; refine Y_then ?_))
  intro _
  refine X_loopD [11] (fun (i : Nat) => [(12, .int .i64 i), (3, .int .i64 (sumF fs i))]) (fun _ => []) (fun i => i ≤ 7) (fun i => 7 - i) 0 rfl (Nat.zero_le _) (by (repeat' (first | exact trivial | refine And.intro rfl ?_)); done) (fun _ h => h) ?_
  intro i hi
  have hi : i ≤ 7 := hi
  have hcl := hb.cnt_le
  by_cases hlt : i < 7
  · obtain ⟨P, hP⟩ : ∃ P, 2 ^ i = P := ⟨_, rfl⟩
    have hml := hok.mlen (k := i) hlt
    have hfi := hok.fit i hlt
    have hsx : sumF fs (i + 1) = sumF fs i + (Cof.get y.ss (i : Int)).m * P := by rw [sumF, hml, hP]
    have hs7 : sumF fs (i + 1) ≤ sumF fs 7 := sum_mono (by omega)
    obtain ⟨X, hX⟩ : ∃ X, (Cof.get y.ss (i : Int)).m * P = X := ⟨_, rfl⟩
    rw [hX] at hsx
    have hsh := shl_f (o := i) (by omega) hP hfi
    rw [hX] at hsh
    have hadd : ((sumF fs i : Nat) : Int) + (X : Int) = ((sumF fs (i + 1) : Nat) : Int) := by omega
    repeat' (first | (refine XL_id ?_; first | refine XL_nil ?_ | refine XL_arrIx tt_ok rfl rfl rfl rfl rfl (by omega) (by omega) (part_one rfl rfl (arr_ix (n := n) (ss := y.ss) (mb := y.mb) hlt)) rfl ?_ | (refine XL_op tt_ok (opV_shl rfl rfl (by omega)) rfl ?_; refine XL_int hsh ?_) | (refine XL_op tt_ok rfl rfl ?_; refine XL_int (Eq.trans (wrap_i64 (by omega) (by omega)) hadd) ?_) | (refine XL_op tt_ok rfl rfl ?_; try (first | refine XL_int (wrap_i64 (by omega) (by omega)) ?_ | refine XL_dec_t (by omega) ?_))) | (refine X_id ?_; first | refine X_seq ?_ | (refine X_regionN (by repeat' (exact .nil)) ?_) | refine X_skip ?_ | refine X_block ?_ | refine X_cond_t rfl ?_) | (refine Y_id ?_; first | refine Y_then ?_ | refine Y_block_normal ?_))
    all_goals first
      | exact Y_again (i + 1) fun _ _ hf hs => ⟨hlt, by show 7 - (i + 1) < 7 - i; omega, hf.sub (by (repeat' (first | exact trivial | refine And.intro rfl ?_)); done), hs⟩
      | (exfalso; omega)
      | skip
    
  · obtain rfl : i = 7 := by omega
    repeat' (first | (refine XL_id ?_; first | refine XL_nil ?_ | (refine XL_op tt_ok rfl rfl ?_; try (refine XL_dec_f (by omega) ?_))) | (refine X_id ?_; first | refine X_seq ?_ | (refine X_regionN (by repeat' (exact .nil)) ?_) | refine X_ret ?_ | refine X_exit ?_ | refine X_cond_f rfl ?_) | (refine Y_id ?_; first | refine Y_then ?_ | refine Y_then_exit ?_ | refine Y_block_hit ?_))
    all_goals first
      | (rw [← hb.sum]; exact Y_fn1 rfl rfl rfl)
      | (exfalso; omega)
      | skip
    
theorem whole_spec (p : Nat) (op : List Bool) (fs : List (List Int)) (tk : Int → Option Int) (y : Sq) (hok : y.Ok fs) (hn : op.length ≤ 4096) (hb : BOk op fs) : FnC Try.prog 18 [ptr p] (fun g => stars (bdM p op.length tk y) g) (.bool (decide ((cntB op : Int) = op.length))) := by
  refine Ctr.intro Try.func18 rfl rfl (by decide +kernel) fun F hpre => ?_
  have hbk : blk p (bdL op.length y.ss y.mb) 57 F.heap := blk_at 0 rfl hpre
  repeat' (first | (refine XL_id ?_; first | refine XL_nil ?_ | refine XL_guard_yes rfl rfl rfl ?_ | (refine XG_call ?_; first | refine XL_fn (none_spec p op.length y.ss y.mb) rfl rfl (fun g hg hL => blk_le (blk_le hbk hFG) hg) ?_ | refine XL_fn (free_spec p op.length op fs tk y hok hn hb) rfl rfl (fun g hg hL => stars_up hpre (hFG.trans hg)) ?_) | (refine XL_op tt_ok rfl rfl ?_)) | (refine XD_id ?_; first | (refine XD_thaw thaw ?_; refine XD_nil ?_) | (refine XD_id ?_; (first | (refine XD_gL rfl ?_; refine XD_sy rfl rfl rfl rfl rfl (XV_load tt_ok rfl (blk_le (by assumption) hFG) rfl rfl rfl) rfl ?_) | (refine XD_u rfl rfl ?_; refine XD_s rfl rfl rfl (XV_op tt_ok rfl) rfl ?_) | (refine XD_g rfl rfl ?_; refine XD_sy rfl rfl rfl rfl rfl (XV_op tt_ok rfl) rfl ?_)); try (refine XD_dec (fun _ => ?_) (fun _ => ?_))) | refine XD_m rfl rfl ?_) | (refine X_id ?_; first | (refine X_drawS (id := 1) [0, 1, 2, 3, 4, 6, 7, 8, 9, 5, 10, 11, 12] (fun | 1 => .m | 5 => .m | _ => .s) 8 (by repeat' (exact Split.nil)) mixed (by decide +kernel) ?_; intro G hFG hM thaw; show XD _ _ _ _ _ _ [0, 1, 2, 3, 4, 6, 7, 8, 9, 5, 10, 11, 12] _ _ _) | refine X_seq ?_ | (refine X_regionN (by repeat' (exact .nil)) ?_) | refine X_ret ?_) | (refine Y_id ?_; first | refine Y_then ?_ | refine Y_m ?_))
  all_goals first
    | (refine Y_fn1 rfl rfl ?_; first | exact bool_t (by assumption) | exact bool_f (by assumption))
    | skip
  
theorem free_is (p n : Nat) (op : List Bool) (fs : List (List Int)) (tk : Int → Option Int) (hn : op.length ≤ 4096) (hb : BOk op fs) : Ctr Try.prog 16 [ptr p] (fun _ => True) [isBd p n fs tk] (fun v L => v = iV (cntB op) ∧ L = [isBd p n fs tk]) :=
  Ctr.on (free_spec p n [] (List.replicate 7 []) tk ⟨List.replicate 7 q0, 0⟩ ok0 (by decide) ⟨pl_end (n := 0) (Nat.le_refl _) pl_nil, by decide⟩).1 (fun _ h => h) (fun _ h => isBd_mk h) fun y hy => free_spec p n op fs tk y hy hn hb
theorem whole_is (p : Nat) (op : List Bool) (fs : List (List Int)) (tk : Int → Option Int) (hn : op.length ≤ 4096) (hb : BOk op fs) : Ctr Try.prog 18 [ptr p] (fun _ => True) [isBd p op.length fs tk] (fun v L => v = .bool (decide ((cntB op : Int) = op.length)) ∧ L = [isBd p op.length fs tk]) :=
  Ctr.on (whole_spec p [] (List.replicate 7 []) tk ⟨List.replicate 7 q0, 0⟩ ok0 (by decide) ⟨pl_end (n := 0) (Nat.le_refl _) pl_nil, by decide⟩).1 (fun _ h => h) (fun _ h => isBd_mk h) fun y hy => whole_spec p op fs tk y hy hn hb
/-- Lists, each in its own memory. -/
def isLl (q : In (In Int)) : HProp := fun h => (q.m = 7 ∧ ∀ x ∈ q.xs, x.m ≤ 4096) ∧ stars [own (encIn Int) q.A q.m q.c q.xs, allI encN q.xs] h
theorem sliceLit {x : In Int} : (encIn Int).enc x = [slV x] := rfl
set_option maxHeartbeats 4000000 in
theorem lists_spec (p n : Nat) (fs : List (List Int)) (tk : Int → Option Int) (y : Sq) (hok : y.Ok fs) : Ctr Try.prog 25 [ptr p] (fun g => stars (bdM p n tk y) g) [] (fun v L => ∃ q : In (In Int), q.xs.map In.xs = fs ∧ v = slV q ∧ L = [isLl q]) := by
  refine Ctr.intro Try.func25 rfl rfl (by decide +kernel) fun F hpre => ?_
  have hbk : blk p (bdL n y.ss y.mb) 57 F.heap := blk_at 0 rfl hpre
  repeat' (first | (refine XL_id ?_; first | refine XL_nil ?_ | (refine XG_load ?_; refine XL_loadF tt_ok rfl (by assumption) rfl rfl rfl rfl ?_) | (refine XG_call ?_; refine XL_fn (none_spec p n y.ss y.mb) rfl rfl (fun g hg hL => blk_le hbk hg) ?_) | (refine XL_op tt_ok rfl rfl ?_)) | (refine X_id ?_; first | refine X_block (id := 0) (hold ?_) | refine X_seq ?_ | (refine X_regionN (by repeat' (exact .nil)) ?_) | refine X_skip ?_ | refine X_cond_f rfl ?_) | (refine Y_id ?_; refine Y_then ?_))
  intro _
  refine X_loopD4 [11] (fun (i : Nat) (A : Option Addr) (c : Nat) (l : List (In Int)) => [(12, .int .i64 i), (3, .slice A i c)]) (fun i A c l => [own (encIn Int) A i c l, allI encN l]) (fun i A c l => i ≤ 7 ∧ l.map In.xs = fs.take i ∧ ∀ x ∈ l, x.m ≤ 4096) (fun i _ _ _ => 7 - i) 0 none 0 [] rfl ⟨Nat.zero_le _, rfl, fun x hx => by cases hx⟩ (by (repeat' (first | exact trivial | refine And.intro rfl ?_)); done) (fun h hs => stars_new (own_nil _ _) (stars_new (allI_nil _) hs)) ?_
  intro i A c l hi
  obtain ⟨hi, hl, hlm⟩ := hi
  by_cases hlt : i < 7
  · have hml := hok.ml i hlt
    have hfi := hok.fit i hlt
    have hfl : fs.length = 7 := by rw [← hok.eq, List.length_map, hok.len]
    have hcl := cloneI_spec (Cof.get y.ss (i : Int)).A (Cof.get y.ss (i : Int)).m (Cof.get y.ss (i : Int)).c (Cof.get fs (i : Int)) (by omega)
    have hsn : fs.take (i + 1) = fs.take i ++ [Cof.get fs (i : Int)] := take_snoc' _ _ (by omega)
    repeat' (first | (refine XL_id ?_; first | refine XL_nil ?_ | refine XL_arrIx tt_ok rfl rfl rfl rfl rfl (by omega) (by omega) (part_one rfl rfl (arr_ix (n := n) (ss := y.ss) (mb := y.mb) hlt)) rfl ?_ | (refine XG_call ?_; first | (refine XL_callK [] hcl rfl rfl (fun _ => rfl) (fun g hg hL => bd_rd hok hlt 1 rfl (stars_up hpre hg)) (fun u L hv => ?_); obtain ⟨z, hz, hzm, rfl, rfl⟩ := hv) | (refine XL_app1 (E := encIn Int) tt_ok 2 0 z rfl rfl rfl rfl rfl rfl rfl rfl rfl rfl rfl (by show (_ : Nat) * 24 ≤ _; omega) (by omega) (fun _ _ => rfl) (fun A3 c3 => ?_))) | (refine XG_lit ?_; (refine XL_lit tt_ok rfl rfl rfl rfl rfl rfl rfl rfl rfl (fun _ => rfl) (fun b => ?_); refine XL_nB (by repeat' (first | exact .nil | apply NL.cons)) ?_)) | (refine XL_op tt_ok rfl rfl ?_; try (first | refine XL_int (wrap_i64 (by omega) (by omega)) ?_ | refine XL_dec_t (by omega) ?_))) | (refine X_id ?_; first | refine X_seq ?_ | (refine X_regionN (by repeat' (first | exact .nil | apply NL.cons)) ?_) | refine X_skip ?_ | refine X_block ?_ | refine X_cond_t rfl ?_) | (refine Y_id ?_; first | refine Y_then ?_ | refine Y_block_normal ?_))
    all_goals first
      | exact Y_again (i + 1, A3, c3, l ++ [z]) fun _ _ hf hs => ⟨⟨hlt, by rw [List.map_append, hl, hsn, List.map_singleton, hz], fun x hx => by rcases List.mem_append.1 hx with hx | hx; exact hlm x hx; obtain rfl := List.mem_singleton.1 hx; omega⟩, by show 7 - (i + 1) < 7 - i; omega, hf.sub (by (repeat' (first | exact trivial | refine And.intro rfl ?_)); done), hs.imp fun h hs => stars_swap (allI_snoc (stars_only [1, 2, 1] rfl h hs))⟩
      | (exfalso; omega)
      | skip
    
  · obtain rfl : i = 7 := by omega
    have hfl : fs.length = 7 := by rw [← hok.eq, List.length_map, hok.len]
    rw [List.take_of_length_le (by omega)] at hl
    repeat' (first | (refine XL_id ?_; first | refine XL_nil ?_ | (refine XL_op tt_ok rfl rfl ?_; try (refine XL_dec_f (by omega) ?_))) | (refine X_id ?_; first | refine X_seq ?_ | (refine X_regionN (by repeat' (first | exact .nil | apply NL.cons)) ?_) | refine X_ret ?_ | refine X_exit ?_ | refine X_cond_f rfl ?_) | (refine Y_id ?_; first | refine Y_then ?_ | refine Y_then_exit ?_ | refine Y_block_hit ?_))
    all_goals first
      | exact Y_ret1 rfl rfl (stars_fin [0, 0] rfl (fun h hs => ⟨⟨rfl, hlm⟩, hs⟩)) ⟨⟨A, 7, c, l⟩, hl, rfl, rfl⟩
      | (exfalso; omega)
      | skip
    
end Go.Proofs.Ytkcpjgdmfjhlkaa
