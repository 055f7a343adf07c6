/- Tables: the program. -/
import Derived.Test.YtalkcemelegohaaAdWs
set_option linter.unusedVariables false
set_option maxRecDepth 100000
namespace Go.Proofs.Ytalkcemelegohaa.Ad
open Go.RowKit Go.Cof

def tabsF (l : List Sp) : Int × Int := if 1024 < l.length then (0, 3) else if ∀ s ∈ l, s.May then ((total l : Int), 0) else (0, 2)
theorem shr_lv {x : Int} {k D : Nat} (hk : k ≤ 2) (hD : 32 ^ (k + 1) = D) : x / 2 ^ min ((5 : Int) * ((k : Int) + 1)).toNat IntKind.i64.bits = x / (D : Int) := by
  subst hD
  match k, hk with
  | 0, _ => rfl
  | 1, _ => rfl
  | 2, _ => rfl
abbrev pos (l : List Sp) : List Sp := l.filter fun s => decide (0 < s.n)
theorem pos_total (l : List Sp) : total (pos l) = total l :=
  total_ext fun D hD k => ⟨Cv.mem fun s hs _ => (List.mem_filter.1 hs).1, Cv.mem fun s hs h => List.mem_filter.2 ⟨hs, decide_eq_true h⟩⟩
theorem perm_total {l m : List Sp} (h : l.Perm m) : total l = total m :=
  total_ext fun D hD k => ⟨Cv.mem fun s hs _ => h.mem_iff.1 hs, Cv.mem fun s hs _ => h.mem_iff.2 hs⟩
theorem take_pos {l : List Sp} {i : Nat} (hi : i < l.length) : pos (l.take (i + 1)) = if 0 < (Cof.get l (i : Int)).n then pos (l.take i) ++ [Cof.get l (i : Int)] else pos (l.take i) := by
  rw [take_snoc' _ _ hi]
  unfold pos
  rw [List.filter_append]
  by_cases h : 0 < (Cof.get l (i : Int)).n
  · rw [if_pos h, show List.filter (fun s : Sp => decide (0 < s.n)) [Cof.get l (i : Int)] = [Cof.get l (i : Int)] from by simp [h]]
  · rw [if_neg h, show List.filter (fun s : Sp => decide (0 < s.n)) [Cof.get l (i : Int)] = [] from by simp [h]]; simp
/-- what is counted ahead of a level -/
def ahead3 (l : List Sp) (k : Nat) : Nat := 1 + (if 0 < k then cntB (marks 32 32768 l) else 0) + (if 1 < k then cntB (marks 1024 1024 l) else 0) + (if 2 < k then cntB (marks 32768 32 l) else 0)
theorem ahead_step (l : List Sp) {k D M : Nat} (hk : k ≤ 2) (hD : 32 ^ (k + 1) = D) (hM : 1048576 / D = M) : ahead3 l (k + 1) = ahead3 l k + cntB (marks D M l) := by
  subst hD hM
  match k, hk with
  | 0, _ => show 1 + cntB _ + 0 + 0 = 1 + 0 + 0 + 0 + cntB _; rw [show 1048576 / 32 ^ (0 + 1) = 32768 from rfl]; simp
  | 1, _ => show 1 + cntB _ + cntB _ + 0 = 1 + cntB _ + 0 + 0 + cntB _; rfl
  | 2, _ => rfl
theorem marks_cap (D M : Nat) (l : List Sp) : cntB (marks D M l) ≤ M := by
  have := cnt_len (marks D M l)
  rw [marks_len] at this
  exact this
theorem ahead_cap (l : List Sp) (k : Nat) : ahead3 l k ≤ 33825 := by
  have h1 := marks_cap 32 32768 l
  have h2 := marks_cap 1024 1024 l
  have h3 := marks_cap 32768 32 l
  unfold ahead3
  split <;> split <;> split <;> omega
theorem hi_lt {D M : Nat} {s : Sp} (hs : s.May) (hn : 0 < s.n) (hD : 0 < D) (hM : D * M = 1048576) : hi D s < M := by
  obtain ⟨h0, h1, h2, h3⟩ := hs
  unfold hi
  have h4 : (s.p + s.n - 1) / (D : Int) < M := by
    refine Int.ediv_lt_of_lt_mul (by omega) ?_
    have : ((M : Int) * D) = 1048576 := by rw [Int.mul_comm, ← Int.natCast_mul, hM]; rfl
    omega
  have h5 : 0 ≤ (s.p + s.n - 1) / (D : Int) := Int.ediv_nonneg (by omega) (by omega)
  omega
theorem lo_int {D : Nat} {s : Sp} (h : 0 ≤ s.p) : s.p / (D : Int) = (lo D s : Int) := by
  have := Int.ediv_nonneg h (show (0 : Int) ≤ D by omega)
  unfold lo; omega
theorem hi_int {D : Nat} {s : Sp} (h : 0 ≤ s.p) (hn : 0 < s.n) : (s.p + s.n - 1) / (D : Int) = (hi D s : Int) := by
  have := Int.ediv_nonneg (show 0 ≤ s.p + s.n - 1 by omega) (show (0 : Int) ≤ D by omega)
  unfold hi; omega
set_option maxHeartbeats 8000000 in
theorem tables_spec (A : Option Addr) (m c : Nat) (l : List Sp) (hi64 : ∀ s ∈ l, i64In s.p ∧ i64In s.n) (hm : m ≤ 9223372036854775807) : FnC Try.prog 51 [.slice A m c] (fun h => rdS encSp h A m l) (pr2 (iV (tabsF l).1) (iV (tabsF l).2)) := by
  by_cases h1024 : 1024 < l.length
  · have hF : tabsF l = (0, 3) := if_pos h1024
    rw [hF]
    refine Ctr.intro Try.func51 rfl rfl (by decide +kernel) fun F hpre => ?_
    have rl : rdS encSp F.heap A m l := hpre
    have hll := rl.1
    repeat' (first | (refine XL_id ?_; first | refine XL_nil ?_ | (refine XL_op tt_ok rfl rfl ?_; try (refine XL_dec_t (by omega) ?_))) | (refine X_id ?_; first | refine X_seq ?_ | (refine X_regionN (by repeat' (exact .nil)) ?_) | refine X_ret ?_ | refine X_cond_t rfl ?_) | (refine Y_id ?_; first | refine Y_then ?_ | refine Y_then_ret ?_))
    all_goals first
      | exact Y_fn2 rfl rfl rfl rfl
      | (exfalso; omega)
      | skip
    
  · refine Ctr.intro Try.func51 rfl rfl (by decide +kernel) fun F hpre => ?_
    have rl : rdS encSp F.heap A m l := hpre
    have hll := rl.1
    repeat' (first | (refine XL_id ?_; first | refine XL_nil ?_ | (refine XL_op tt_ok rfl rfl ?_; try (refine XL_dec_f (by omega) ?_))) | (refine X_id ?_; first | refine X_block (id := 0) (hold ?_) | refine X_seq ?_ | (refine X_regionN (by repeat' (exact .nil)) ?_) | refine X_skip ?_ | refine X_cond_f rfl ?_) | (refine Y_id ?_; refine Y_then ?_))
    all_goals first
      | (exfalso; omega)
      | skip
    intro _
    refine X_loopD4 [17, 18] (fun (i : Nat) (B : Option Addr) (k q : Nat) => [(19, .int .i64 i), (4, .slice B k q)]) (fun i B k q => [own encSp B k q (pos (l.take i))]) (fun i _ k _ => i ≤ m ∧ k ≤ i ∧ ∀ s ∈ l.take i, s.May) (fun i _ _ _ => m - i) 0 none 0 0 rfl ⟨Nat.zero_le _, Nat.le_refl _, fun s hs => by simp at hs⟩ (by (repeat' (first | exact trivial | refine And.intro rfl ?_)); done) (fun h hs => stars_new (own_nil encSp _) hs) ?_
    intro i B k q hq0
    obtain ⟨him, hki, hmay⟩ := hq0
    by_cases hlt : i < m
    · have hx := hi64 _ (get_mem' (l := l) (i := (i : Int)) (by omega) (by omega))
      obtain ⟨hx1, hx2⟩ := hx
      by_cases hM : (Cof.get l (i : Int)).May
      · obtain ⟨g0, g1, g2, g3⟩ := hM
        have htp := take_pos (l := l) (i := i) (by omega)
        have hmay2 : ∀ s ∈ l.take (i + 1), s.May := fun s hs => by
          rw [take_snoc' _ _ (show i < l.length by omega)] at hs
          rcases List.mem_append.1 hs with hs | hs
          · exact hmay s hs
          · rw [List.mem_singleton.1 hs]; exact ⟨g0, g1, g2, g3⟩
        by_cases hn : 0 < (Cof.get l (i : Int)).n
        · rw [if_pos hn] at htp
          repeat' (first | (refine XL_id ?_; first | refine XL_nil ?_ | refine XL_guard_yes rfl rfl rfl ?_ | (refine XL_fact 2 rfl (fun _ o => (own_len o).1) (fun hlm => ?_); refine XL_app1 (E := encSp) tt_ok 2 0 (Cof.get l (i : Int)) rfl rfl rfl rfl rfl rfl rfl rfl rfl rfl rfl (by show (_ : Nat) * 16 ≤ _; omega) (by omega) (fun _ _ => rfl) (fun A3 c3 => ?_)) | (refine XG_load ?_; first | refine XL_loadW tt_ok 0 rfl rfl rfl rfl rfl rfl ?_ | refine XL_load tt_ok 0 rfl rfl rfl rfl rfl rfl ?_ | refine XL_elW tt_ok rfl (by assumption) rfl (by omega) (by omega) rfl rfl rfl rfl ?_) | (refine XG_idx ?_; refine XL_idx tt_ok rfl rfl rfl rfl rfl (by assumption) (by omega) (by omega) rfl ?_) | (refine XG_alloc ?_; (refine XL_alloc tt_ok rfl rfl (fun _ => rfl) (fun b => ?_); refine XL_nB (by repeat' (first | exact .nil | apply NL.cons)) ?_)) | (refine XG_lit ?_; (refine XL_lit tt_ok rfl rfl rfl rfl rfl rfl rfl rfl rfl (fun _ => rfl) (fun b => ?_); refine XL_nB (by repeat' (first | exact .nil | apply NL.cons)) ?_)) | (refine XG_store ?_; (refine XL_storeW tt_ok 0 rfl rfl rfl rfl rfl rfl rfl ?_; refine XL_nK 0 rfl (by repeat' (first | exact .nil | apply NL.cons)) ?_)) | (refine XL_op tt_ok rfl rfl ?_; try (first | refine XL_int (wrap_i64 (by omega) (by omega)) ?_ | refine XL_dec_t (by omega) ?_ | refine XL_dec_f (by omega) ?_))) | (refine X_id ?_; first | refine X_seq ?_ | (refine X_regionN (by repeat' (first | exact .nil | apply NL.cons)) ?_) | refine X_skip ?_ | refine X_block ?_ | refine X_cond_t rfl ?_ | refine X_cond_f rfl ?_) | (refine Y_id ?_; first | refine Y_then ?_ | refine Y_block_normal ?_))
          all_goals first
            | exact Y_again (i + 1, A3, k + 1, c3) fun _ _ hf hs => ⟨⟨hlt, by show k + 1 ≤ i + 1; omega, hmay2⟩, by show m - (i + 1) < m - i; omega, hf.sub (by (repeat' (first | exact trivial | refine And.intro rfl ?_)); done), hs.imp fun g hg => by (show stars [own encSp A3 (k + 1) c3 (pos (l.take (i + 1)))] g; rw [htp]; exact stars_only [2] rfl g hg)⟩
            | (exfalso; omega)
            | skip
          
        · rw [if_neg hn] at htp
          repeat' (first | (refine XL_id ?_; first | refine XL_nil ?_ | refine XL_guard_yes rfl rfl rfl ?_ | (refine XG_load ?_; first | refine XL_load tt_ok 0 rfl rfl rfl rfl rfl rfl ?_ | refine XL_elW tt_ok rfl (by assumption) rfl (by omega) (by omega) rfl rfl rfl rfl ?_) | (refine XG_idx ?_; refine XL_idx tt_ok rfl rfl rfl rfl rfl (by assumption) (by omega) (by omega) rfl ?_) | (refine XG_alloc ?_; (refine XL_alloc tt_ok rfl rfl (fun _ => rfl) (fun b => ?_); refine XL_nB (by repeat' (first | exact .nil | apply NL.cons)) ?_)) | (refine XG_store ?_; (refine XL_storeW tt_ok 0 rfl rfl rfl rfl rfl rfl rfl ?_; refine XL_nK 0 rfl (by repeat' (first | exact .nil | apply NL.cons)) ?_)) | (refine XL_op tt_ok rfl rfl ?_; try (first | refine XL_int (wrap_i64 (by omega) (by omega)) ?_ | refine XL_dec_t (by omega) ?_ | refine XL_dec_f (by omega) ?_))) | (refine X_id ?_; first | refine X_seq ?_ | (refine X_regionN (by repeat' (first | exact .nil | apply NL.cons)) ?_) | refine X_skip ?_ | refine X_block ?_ | refine X_cond_t rfl ?_ | refine X_cond_f rfl ?_) | (refine Y_id ?_; first | refine Y_then ?_ | refine Y_block_normal ?_))
          all_goals first
            | exact Y_again (i + 1, B, k, q) fun _ _ hf hs => ⟨⟨hlt, by show k ≤ i + 1; omega, hmay2⟩, by show m - (i + 1) < m - i; omega, hf.sub (by (repeat' (first | exact trivial | refine And.intro rfl ?_)); done), hs.imp fun g hg => by (show stars [own encSp B k q (pos (l.take (i + 1)))] g; rw [htp]; exact stars_only [1] rfl g hg)⟩
            | (exfalso; omega)
            | skip
          
      · have hF : tabsF l = (0, 2) := by
          unfold tabsF
          rw [if_neg h1024, if_neg (fun h => hM (h _ (get_mem' (l := l) (i := (i : Int)) (by omega) (by omega))))]
        rw [hF]
        unfold Sp.May at hM
        repeat' (first | (refine XL_id ?_; first | refine XL_nil ?_ | refine XL_guard_yes rfl rfl rfl ?_ | refine XL_guard_no rfl rfl rfl rfl rfl ?_ | (refine XG_load ?_; first | refine XL_load tt_ok 0 rfl rfl rfl rfl rfl rfl ?_ | refine XL_elW tt_ok rfl (by assumption) rfl (by omega) (by omega) rfl rfl rfl rfl ?_) | (refine XG_idx ?_; refine XL_idx tt_ok rfl rfl rfl rfl rfl (by assumption) (by omega) (by omega) rfl ?_) | (refine XG_alloc ?_; (refine XL_alloc tt_ok rfl rfl (fun _ => rfl) (fun b => ?_); refine XL_nB (by repeat' (first | exact .nil | apply NL.cons)) ?_)) | (refine XG_store ?_; (refine XL_storeW tt_ok 0 rfl rfl rfl rfl rfl rfl rfl ?_; refine XL_nK 0 rfl (by repeat' (first | exact .nil | apply NL.cons)) ?_)) | (refine XL_op tt_ok rfl rfl ?_; try (first | refine XL_int (wrap_i64 (by omega) (by omega)) ?_ | refine XL_dec_t (by omega) ?_ | refine XL_dec (fun _ => ?_) (fun _ => ?_)))) | (refine X_id ?_; first | refine X_seq ?_ | (refine X_regionN (by repeat' (first | exact .nil | apply NL.cons)) ?_) | refine X_skip ?_ | refine X_ret ?_ | refine X_block ?_ | refine X_cond_t rfl ?_) | (refine Y_id ?_; first | refine Y_then ?_ | refine Y_then_ret ?_ | refine Y_block_ret ?_))
        all_goals first
          | exact Y_fn2 rfl rfl rfl rfl
          | (exfalso; omega)
          | skip
        
    · obtain rfl : i = m := by omega
      rw [List.take_of_length_le (by omega)] at hmay ⊢
      have hF : tabsF l = ((total l : Int), 0) := by unfold tabsF; rw [if_neg h1024, if_pos hmay]
      rw [hF]
      have hS := sort_spec B k q (pos l) (fun s hs => hmay s (List.mem_filter.1 hs).1) (by omega)
      repeat' (first | (refine XL_id ?_; first | refine XL_nil ?_ | (refine XG_call ?_; (refine XL_callK [0] hS rfl rfl (fun _ => rfl) (fun _ _ _ => trivial) (fun u L hv => ?_); obtain ⟨ys, hys, hso, rfl, rfl⟩ := hv)) | (refine XL_op tt_ok rfl rfl ?_; try (refine XL_dec_f (by omega) ?_))) | (refine X_id ?_; first | refine X_block (id := 2) (hold ?_) | refine X_seq ?_ | (refine X_regionN (by repeat' (first | exact .nil | apply NL.cons)) ?_) | refine X_exit ?_ | refine X_cond_f rfl ?_) | (refine Y_id ?_; first | refine Y_then ?_ | refine Y_then_exit ?_ | refine Y_block_hit ?_))
      all_goals first
        | (exfalso; omega)
        | skip
      intro _
      have hyl := hys
      have hpm : ∀ s ∈ ys, s.May ∧ 0 < s.n := fun s hs => by
        have h := List.mem_filter.1 (hys.mem_iff.1 hs)
        exact ⟨hmay s h.1, of_decide_eq_true h.2⟩
      have htot : total ys = total l := by rw [perm_total hys, pos_total]
      refine X_fact 0 rfl (fun _ o => (own_len o).1) fun hky => ?_
      refine X_loopD [4] (fun (v : Nat) => [(8, .int .i64 v), (7, .int .i64 (ahead3 ys v))]) (fun _ => [own encSp B k q ys]) (fun v => v ≤ 3) (fun v => 3 - v) 0 rfl (Nat.zero_le _) (by (repeat' (first | exact trivial | refine And.intro rfl ?_)); done) (fun h hs => hs) ?_
      intro v hv
      have hv : v ≤ 3 := hv
      have hca := ahead_cap ys v
      by_cases hv3 : v < 3
      · obtain ⟨D, hD⟩ : ∃ D, 32 ^ (v + 1) = D := ⟨_, rfl⟩
        obtain ⟨M, hMM⟩ : ∃ M, 1048576 / D = M := ⟨_, rfl⟩
        have hD0 : 0 < D := by rw [← hD]; exact Nat.pow_pos (by decide)
        have hDM : D * M = 1048576 := by
          subst hD hMM
          match v, hv3 with
          | 0, _ => rfl
          | 1, _ => rfl
          | 2, _ => rfl
        have hstep := ahead_step ys (k := v) (by omega) hD hMM
        repeat' (first | (refine XL_id ?_; first | refine XL_nil ?_ | (refine XL_op tt_ok rfl rfl ?_; try (refine XL_dec_t (by omega) ?_))) | (refine X_id ?_; first | refine X_block (id := 4) (hold ?_) | refine X_seq ?_ | (refine X_regionN (by repeat' (first | exact .nil | apply NL.cons)) ?_) | refine X_skip ?_ | refine X_block ?_ | refine X_cond_t rfl ?_) | (refine Y_id ?_; refine Y_then ?_))
        all_goals first
          | (exfalso; omega)
          | skip
        intro _
        obtain ⟨C0, hC0⟩ : ∃ C0, ahead3 ys v = C0 := ⟨_, rfl⟩
        rw [hC0] at hca hstep ⊢
        refine X_loopD3 [4, 8, 58, 59] (fun (j nx C : Nat) => [(60, .int .i64 j), (9, .int .i64 nx), (7, .int .i64 C)]) (fun _ _ _ => [own encSp B k q ys]) (fun j nx C => j ≤ k ∧ nx ≤ 1048576 ∧ C = C0 + cntB (marks D M (ys.take j)) ∧ Sw D (marks D M (ys.take j)) nx (ys.drop j)) (fun j _ _ => k - j) 0 0 C0 rfl ⟨Nat.zero_le _, Nat.zero_le _, by show C0 = C0 + cntB (marks D M []); rw [show cntB (marks D M []) = 0 from cnt_none M]; rfl, Sw.start D M ys⟩ (by (repeat' (first | exact trivial | refine And.intro rfl ?_)); done) (fun h hs => hs) ?_
        intro j nx C hj
        obtain ⟨hj, hnx, hC, hsw⟩ := hj
        have hcap := marks_cap D M (ys.take j)
        have hM2 : M ≤ 1048576 := by rw [← hMM]; exact Nat.div_le_self _ _
        by_cases hjl : j < k
        · have hmem := get_mem' (l := ys) (i := (j : Int)) (by omega) (by omega)
          obtain ⟨⟨g0, g1, g2, g3⟩, hn⟩ := hpm _ hmem
          have hdr : ys.drop j = Cof.get ys (j : Int) :: ys.drop (j + 1) := by rw [List.drop_eq_getElem_cons (by omega), get_getElem (by omega)]
          have hhi := hi_lt (s := Cof.get ys (j : Int)) ⟨g0, g1, g2, g3⟩ hn hD0 hDM
          rw [hdr] at hsw
          have hasc : ∀ t ∈ ys.drop (j + 1), (Cof.get ys (j : Int)).p ≤ t.p := by
            have hso2 := hso.sublist (List.drop_sublist j ys)
            rw [hdr] at hso2
            exact (List.pairwise_cons.1 hso2).1
          have htk : ys.take (j + 1) = ys.take j ++ [Cof.get ys (j : Int)] := take_snoc' _ _ (by omega)
          have s1 : (Cof.get ys (j : Int)).p / 2 ^ min ((5 : Int) * ((v : Int) + 1)).toNat IntKind.i64.bits = (lo D (Cof.get ys (j : Int)) : Int) := by rw [shr_lv (by omega) hD, lo_int g0]
          have s2 : ((Cof.get ys (j : Int)).p + (Cof.get ys (j : Int)).n - 1) / 2 ^ min ((5 : Int) * ((v : Int) + 1)).toNat IntKind.i64.bits = (hi D (Cof.get ys (j : Int)) : Int) := by rw [shr_lv (by omega) hD, hi_int g0 hn]
          obtain ⟨L, hL⟩ : ∃ L, lo D (Cof.get ys (j : Int)) = L := ⟨_, rfl⟩
          obtain ⟨H, hH⟩ : ∃ H, hi D (Cof.get ys (j : Int)) = H := ⟨_, rfl⟩
          obtain ⟨f, hf⟩ : ∃ f, max L nx = f := ⟨_, rfl⟩
          have hmx : (if (nx : Int) > (L : Int) then (nx : Int) else (L : Int)) = (f : Int) := by split <;> omega
          rw [hL] at s1
          rw [hH] at s2 hhi
          by_cases hle : f ≤ H
          · obtain ⟨h1, h2⟩ := hsw.go hD0 hasc hn (by rw [marks_len, hH]; exact hhi) (by rw [hL, hH, hf]; exact hle)
            rw [← marks_snoc, ← htk, hL, hH, hf] at h1
            rw [← marks_snoc, ← htk, hH] at h2
            have hcap2 := marks_cap D M (ys.take (j + 1))
            obtain ⟨C2, hC2⟩ : ∃ C2, C + (H - f + 1) = C2 := ⟨_, rfl⟩
            have hcst : (C : Int) + ((H : Int) - (f : Int) + 1) = (C2 : Int) := by omega
            repeat' (first | (refine XL_id ?_; first | refine XL_nil ?_ | (refine XG_load ?_; refine XL_eloW tt_ok 0 rfl rfl rfl (by omega) (by omega) rfl rfl rfl rfl ?_) | (refine XG_idx ?_; refine XL_idxo tt_ok 0 rfl rfl rfl rfl rfl rfl (by omega) (by omega) rfl ?_) | (refine XG_alloc ?_; (refine XL_alloc tt_ok rfl rfl (fun _ => rfl) (fun b => ?_); refine XL_nB (by repeat' (first | exact .nil | apply NL.cons)) ?_)) | (refine XG_store ?_; (refine XL_storeW tt_ok 0 rfl rfl rfl rfl rfl rfl rfl ?_; refine XL_nK 0 rfl (by repeat' (first | exact .nil | apply NL.cons)) ?_)) | (refine XL_op tt_ok rfl rfl ?_; first | refine XL_int hmx ?_ | refine XL_int (Eq.trans (wrap_i64 (by omega) (by omega)) hcst) ?_) | (refine XL_op tt_ok rfl rfl ?_; try (first | refine XL_int (wrap_i64 (by omega) (by omega)) ?_ | refine XL_dec_t (by omega) ?_))) | (refine XD_id ?_; first | (refine XD_s rfl rfl rfl (XV_op tt_ok (opV_shr rfl rfl (by omega))) rfl ?_; first | refine XD_int s1 ?_ | refine XD_int s2 ?_) | (refine XD_thaw thaw ?_; refine XD_nil ?_) | (refine XD_id ?_; (first | (refine XD_uL rfl ?_; refine XD_s rfl rfl rfl (XV_load tt_ok rfl (blk_at 0 rfl hM) rfl rfl rfl) rfl ?_) | (refine XD_u rfl rfl ?_; refine XD_s rfl rfl rfl (XV_op tt_ok rfl) rfl ?_)); try (refine XD_int (wrap_i64 (by omega) (by omega)) ?_))) | (refine X_id ?_; first | (refine X_drawS (id := 21) [0, 1, 2, 3, 4, 5, 6, 7, 8, 9, 10, 11, 12, 13, 14, 15, 16, 17] (fun _ => .s) 8 (by repeat' (first | exact Split.nil | apply Split.blk | apply Split.keep)) mixed (by decide +kernel) ?_; intro G hFG hM thaw; show XD _ _ _ _ _ _ [0, 1, 2, 3, 4, 5, 6, 7, 8, 9, 10, 11, 12, 13, 14, 15, 16, 17] _ _ _) | refine X_seq ?_ | (refine X_regionN (by repeat' (first | exact .nil | apply NL.cons)) ?_) | refine X_skip ?_ | refine X_block ?_ | refine X_cond_t rfl ?_) | (refine Y_id ?_; first | refine Y_then ?_ | refine Y_block_normal ?_))
            all_goals first
              | exact Y_again (j + 1, H + 1, C2) fun _ _ hf hs => ⟨⟨hjl, by show H + 1 ≤ 1048576; omega, by show C2 = C0 + cntB (marks D M (ys.take (j + 1))); omega, h2⟩, by show k - (j + 1) < k - j; omega, hf.sub (by (repeat' (first | exact trivial | refine And.intro rfl ?_)); done), hs.imp fun g hg => stars_only [0] rfl g hg⟩
              | (exfalso; omega)
              | skip
            
          · obtain ⟨h1, h2⟩ := hsw.stay (by rw [hL, hH, hf]; exact hle) hD0 hn
            rw [← marks_snoc, ← htk] at h1
            rw [← h1] at h2 hC
            repeat' (first | (refine XL_id ?_; first | refine XL_nil ?_ | (refine XG_load ?_; refine XL_eloW tt_ok 0 rfl rfl rfl (by omega) (by omega) rfl rfl rfl rfl ?_) | (refine XG_idx ?_; refine XL_idxo tt_ok 0 rfl rfl rfl rfl rfl rfl (by omega) (by omega) rfl ?_) | (refine XG_alloc ?_; (refine XL_alloc tt_ok rfl rfl (fun _ => rfl) (fun b => ?_); refine XL_nB (by repeat' (first | exact .nil | apply NL.cons)) ?_)) | (refine XG_store ?_; (refine XL_storeW tt_ok 0 rfl rfl rfl rfl rfl rfl rfl ?_; refine XL_nK 0 rfl (by repeat' (first | exact .nil | apply NL.cons)) ?_)) | (refine XL_op tt_ok rfl rfl ?_; refine XL_int hmx ?_) | (refine XL_op tt_ok rfl rfl ?_; try (first | refine XL_int (wrap_i64 (by omega) (by omega)) ?_ | refine XL_dec_t (by omega) ?_ | refine XL_dec_f (by omega) ?_))) | (refine XD_id ?_; first | (refine XD_s rfl rfl rfl (XV_op tt_ok (opV_shr rfl rfl (by omega))) rfl ?_; first | refine XD_int s1 ?_ | refine XD_int s2 ?_) | (refine XD_thaw thaw ?_; refine XD_nil ?_) | (refine XD_id ?_; (first | (refine XD_uL rfl ?_; refine XD_s rfl rfl rfl (XV_load tt_ok rfl (blk_at 0 rfl hM) rfl rfl rfl) rfl ?_) | (refine XD_u rfl rfl ?_; refine XD_s rfl rfl rfl (XV_op tt_ok rfl) rfl ?_)); try (refine XD_int (wrap_i64 (by omega) (by omega)) ?_))) | (refine X_id ?_; first | (refine X_drawS (id := 21) [0, 1, 2, 3, 4, 5, 6, 7, 8, 9, 10, 11, 12, 13, 14, 15, 16, 17] (fun _ => .s) 8 (by repeat' (first | exact Split.nil | apply Split.blk | apply Split.keep)) mixed (by decide +kernel) ?_; intro G hFG hM thaw; show XD _ _ _ _ _ _ [0, 1, 2, 3, 4, 5, 6, 7, 8, 9, 10, 11, 12, 13, 14, 15, 16, 17] _ _ _) | refine X_seq ?_ | (refine X_regionN (by repeat' (first | exact .nil | apply NL.cons)) ?_) | refine X_skip ?_ | refine X_block ?_ | refine X_cond_t rfl ?_ | refine X_cond_f rfl ?_) | (refine Y_id ?_; first | refine Y_then ?_ | refine Y_block_normal ?_))
            all_goals first
              | exact Y_again (j + 1, nx, C) fun _ _ hf hs => ⟨⟨hjl, hnx, hC, h2⟩, by show k - (j + 1) < k - j; omega, hf.sub (by (repeat' (first | exact trivial | refine And.intro rfl ?_)); done), hs.imp fun g hg => stars_only [0] rfl g hg⟩
              | (exfalso; omega)
              | skip
            
        · obtain rfl : j = k := by omega
          rw [List.take_of_length_le (by omega)] at hC
          have hC2 : C = ahead3 ys (v + 1) := by omega
          subst hC2
          repeat' (first | (refine XL_id ?_; first | refine XL_nil ?_ | (refine XL_op tt_ok rfl rfl ?_; try (first | refine XL_int (wrap_i64 (by omega) (by omega)) ?_ | refine XL_dec_f (by omega) ?_))) | (refine X_id ?_; first | refine X_seq ?_ | (refine X_regionN (by repeat' (first | exact .nil | apply NL.cons)) ?_) | refine X_exit ?_ | refine X_cond_f rfl ?_) | (refine Y_id ?_; first | refine Y_then ?_ | refine Y_then_exit ?_ | refine Y_block_hit ?_ | refine Y_block_normal ?_))
          all_goals first
            | exact Y_again (v + 1) fun _ _ hf hs => ⟨hv3, by show 3 - (v + 1) < 3 - v; omega, hf.sub (by (repeat' (first | exact trivial | refine And.intro rfl ?_)); done), hs⟩
            | (exfalso; omega)
            | skip
          
      · obtain rfl : v = 3 := by omega
        have ht3 : ahead3 ys 3 = total l := by rw [← htot]; rfl
        rw [ht3]
        repeat' (first | (refine XL_id ?_; first | refine XL_nil ?_ | (refine XL_op tt_ok rfl rfl ?_; try (refine XL_dec_f (by omega) ?_))) | (refine X_id ?_; first | refine X_seq ?_ | (refine X_regionN (by repeat' (first | exact .nil | apply NL.cons)) ?_) | refine X_ret ?_ | refine X_exit ?_ | refine X_cond_f rfl ?_) | (refine Y_id ?_; first | refine Y_then ?_ | refine Y_then_exit ?_ | refine Y_block_hit ?_))
        all_goals first
          | exact Y_fn2 rfl rfl rfl rfl
          | (exfalso; omega)
          | skip
        
end Go.Proofs.Ytalkcemelegohaa.Ad
