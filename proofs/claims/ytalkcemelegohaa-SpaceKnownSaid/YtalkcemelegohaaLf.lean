/- Address spaces: what several need; program and document. -/
import Derived.Test.YtalkcemelegohaaLe
import Derived.Test.YtalkcemelegohaaLw
set_option linter.unusedVariables false
set_option maxRecDepth 100000
namespace Go.Proofs.Ytalkcemelegohaa
open Go.RowKit Go.Cof
open Vm (Rg encRg rgV)

instance : Inhabited Sv := ⟨⟨none, 0, 0, [], 0⟩⟩
def encSv : Enc Sv := ⟨fun s => [.slice s.A s.m s.c, iV s.h], 2, fun _ => rfl, by decide, fun x u hu => by simp at hu; rcases hu with rfl | rfl <;> rfl⟩
structure SvsR (g : Hp) (A : Option Addr) (m : Nat) (ss : List Sv) : Prop where
  rd : rdS encSv g A m ss
  sub : ∀ s ∈ ss, rdS encRg g s.A s.m s.l
theorem SvsR.le {g g' : Hp} {A : Option Addr} {m : Nat} {ss : List Sv} (r : SvsR g A m ss) (h : Hp.le g g') : SvsR g' A m ss := ⟨r.rd.le h, fun s hs => (r.sub s hs).le h⟩
abbrev Key := List Rg × Int
def key (s : Sv) : Key := (s.l, s.h)
def sumF : List Key → Nd → Nd × Int
  | [], a => (a, 0)
  | s :: ss, a => if scheck s.1 s.2 = 0 then sumF ss ⟨a.a + 1, a.b + pagesN s.1, a.c + tablesN s.1, a.d + s.1.length⟩ else (⟨0, 0, 0, 0⟩, scheck s.1 s.2)
def sumR (ss : List Key) : Nd × Int := if 16 < ss.length then (⟨0, 0, 0, 0⟩, 3) else sumF ss ⟨0, 0, 0, 0⟩
abbrev nsV (x : Nd × Int) : Value := .tuple #[ndV x.1.a x.1.b x.1.c x.1.d, iV x.2]
theorem sumF_at {ss : List Sv} {i : Nat} (hi : i < ss.length) (a : Nd) : sumF ((ss.drop i).map key) a = if scheck (Cof.get ss (i : Int)).l (Cof.get ss (i : Int)).h = 0 then sumF ((ss.drop (i + 1)).map key) ⟨a.a + 1, a.b + pagesN (Cof.get ss (i : Int)).l, a.c + tablesN (Cof.get ss (i : Int)).l, a.d + (Cof.get ss (i : Int)).l.length⟩ else (⟨0, 0, 0, 0⟩, scheck (Cof.get ss (i : Int)).l (Cof.get ss (i : Int)).h) := by
  rw [Vm.drop_get ss i hi]; rfl
structure Sr (a : Nd) (i : Nat) : Prop where
  qa : a.a = i
  qb : 0 ≤ a.b ∧ a.b ≤ i * 1073741824
  qc : 0 ≤ a.c ∧ a.c ≤ i * 33825
  qd : 0 ≤ a.d ∧ a.d ≤ i * 1024
theorem Sr.next {a : Nd} {i : Nat} (h : Sr a i) {l : List Rg} {k : Int} (hs : SGood l k) : Sr ⟨a.a + 1, a.b + pagesN l, a.c + tablesN l, a.d + l.length⟩ (i + 1) := by
  have h1 := pages_rng hs.fine
  have h2 := tables_rng l
  have h3 := hs.fine.len
  obtain ⟨g1, g2, g3, g4⟩ := h
  exact ⟨by show a.a + 1 = _; omega, by show 0 ≤ a.b + pagesN l ∧ a.b + pagesN l ≤ _; omega, by show 0 ≤ a.c + tablesN l ∧ a.c + tablesN l ≤ _; omega, by show 0 ≤ a.d + (l.length : Int) ∧ a.d + (l.length : Int) ≤ _; omega⟩
set_option maxHeartbeats 16000000 in
theorem sum_spec (A : Option Addr) (m c : Nat) (ss : List Sv) (hm : m ≤ 9223372036854775807) (hS : ∀ s ∈ ss, s.Ok) :
    FnC Try.prog 21 [.slice A m c] (fun g => SvsR g A m ss) (nsV (sumR (ss.map key))) := by
  unfold sumR
  rw [List.length_map]
  by_cases hmany : 16 < ss.length
  · rw [if_pos hmany]
    refine Ctr.intro Try.func21 rfl rfl (by decide +kernel) fun F hpre => ?_
    have hpre : SvsR F.heap A m ss := hpre
    have hlen := hpre.rd.1
    repeat' (first | (refine XL_id ?_; first | refine XL_nil ?_ | (refine XG_build ?_; (refine XL_build tt_ok rfl rfl rfl rfl rfl rfl rfl ?_; refine XL_aggN (by repeat' (first | exact .nil | apply NL.cons)) ?_)) | (refine XG_alloc ?_; (refine XL_alloc tt_ok rfl rfl (fun _ => rfl) (fun b => ?_); refine XL_nB (by repeat' (first | exact .nil | apply NL.cons)) ?_)) | (refine XG_store ?_; (refine XL_storeW tt_ok 0 rfl rfl rfl rfl rfl rfl rfl ?_; refine XL_nK 0 rfl (by repeat' (first | exact .nil | apply NL.cons)) ?_)) | (refine XL_op tt_ok rfl rfl ?_; try (refine XL_dec_t (by omega) ?_))) | (refine X_id ?_; first | refine X_seq ?_ | (refine X_regionN (by repeat' (first | exact .nil | apply NL.cons)) ?_) | refine X_ret ?_ | refine X_cond_t rfl ?_) | (refine Y_id ?_; first | refine Y_then ?_ | refine Y_then_ret ?_))
    all_goals first
      | exact Y_res2 rfl (.cell tt_ok 0 rfl rfl rfl rfl rfl) (.tmp rfl) (L' := []) (fun _ _ => trivial) ⟨rfl, rfl⟩
      | (exfalso; omega)
      | skip
    
  · rw [if_neg hmany]
    refine Ctr.intro Try.func21 rfl rfl (by decide +kernel) fun F hpre => ?_
    have hpre : SvsR F.heap A m ss := hpre
    have hlen := hpre.rd.1
    have rr := hpre.rd
    repeat' (first | (refine XL_id ?_; first | refine XL_nil ?_ | (refine XG_alloc ?_; (refine XL_alloc tt_ok rfl rfl (fun _ => rfl) (fun b4 => ?_); refine XL_nB (by repeat' (first | exact .nil | apply NL.cons)) ?_)) | (refine XL_op tt_ok rfl rfl ?_; try (refine XL_dec_f (by omega) ?_))) | (refine X_id ?_; first | refine X_block (id := 0) (hold ?_) | refine X_seq ?_ | (refine X_regionN (by repeat' (first | exact .nil | apply NL.cons)) ?_) | refine X_skip ?_ | refine X_cond_f rfl ?_) | (refine Y_id ?_; refine Y_then ?_))
    all_goals first
      | (exfalso; omega)
      | skip
    intro _
    refine X_loopD2 [2, 4, 13, 14] (fun (i : Nat) (a : Nd) => [(15, .int .i64 i)]) (fun _ a => [blk b4 [iV a.a, iV a.b, iV a.c, iV a.d] 45, _]) (fun i a => i ≤ m ∧ Sr a i ∧ sumF ((ss.drop i).map key) a = sumF (ss.map key) ⟨0, 0, 0, 0⟩) (fun i _ => m - i) 0 ⟨0, 0, 0, 0⟩ rfl ⟨Nat.zero_le _, ⟨rfl, by decide, by decide, by decide⟩, rfl⟩ (by (repeat' (first | exact trivial | refine And.intro rfl ?_)); done) (fun _ h => h) ?_
    intro i a hi
    obtain ⟨hi, hsr, hx⟩ := hi
    have k1 := hsr.qa; have k2 := hsr.qb; have k3 := hsr.qc; have k4 := hsr.qd
    by_cases hlt : i < m
    · have hmem := Vm.get_mem (l := ss) (i := (i : Int)) (by omega) (by omega)
      have hok := hS _ hmem
      have hsub := hpre.sub _ hmem
      have hnd := needs_spec (Cof.get ss (i : Int)).A (Cof.get ss (i : Int)).m (Cof.get ss (i : Int)).c (Cof.get ss (i : Int)).l (Cof.get ss (i : Int)).h (by have := hok.m; omega) hok.all
      have hat := sumF_at (ss := ss) (i := i) (by omega) a
      rw [hx] at hat
      by_cases hz : scheck (Cof.get ss (i : Int)).l (Cof.get ss (i : Int)).h = 0
      · have hg := sgood_iff.1 hz
        rw [needs_good hg] at hnd
        rw [if_pos hz] at hat
        have hnx := hsr.next hg
        have p1 := pages_rng hg.fine
        have p2 := tables_rng (Cof.get ss (i : Int)).l
        have p3 := hg.fine.len
        repeat' (first | (refine XL_id ?_; first | refine XL_nil ?_ | (refine XG_load ?_; first | refine XL_loadW tt_ok 0 rfl rfl rfl rfl rfl rfl ?_ | refine XL_load tt_ok 0 rfl rfl rfl rfl rfl rfl ?_ | refine XL_load tt_ok 2 rfl rfl rfl rfl rfl rfl ?_ | refine XL_elW tt_ok rfl (by assumption) rfl (by omega) (by omega) rfl rfl rfl rfl ?_) | (refine XG_idx ?_; refine XL_idx tt_ok rfl rfl rfl rfl rfl (by assumption) (by omega) (by omega) rfl ?_) | (refine XG_call ?_; refine XL_fn hnd rfl rfl (fun g hg _ => hsub.le hg) ?_) | (refine XG_alloc ?_; (refine XL_alloc tt_ok rfl rfl (fun _ => rfl) (fun b => ?_); refine XL_nB (by repeat' (first | exact .nil | apply NL.cons)) ?_)) | (refine XG_store ?_; first | (refine XL_storeW tt_ok 0 rfl rfl rfl rfl rfl rfl rfl ?_; refine XL_nK 0 rfl (by repeat' (first | exact .nil | apply NL.cons)) ?_) | (refine XL_store tt_ok 2 rfl rfl rfl rfl rfl rfl rfl rfl ?_; refine XL_nK 2 rfl (by repeat' (first | exact .nil | apply NL.cons)) ?_)) | (refine XL_op tt_ok rfl rfl ?_; try (first | refine XL_int (wrap_i64 (by omega) (by omega)) ?_ | refine XL_dec_t (by omega) ?_ | refine XL_dec_f (by omega) ?_))) | (refine X_id ?_; first | refine X_seq ?_ | (refine X_regionN (by repeat' (first | exact .nil | apply NL.cons)) ?_) | refine X_skip ?_ | refine X_block ?_ | refine X_cond_t rfl ?_ | refine X_cond_f rfl ?_) | (refine Y_id ?_; first | refine Y_then ?_ | refine Y_block_normal ?_))
        all_goals first
          | exact Y_again (i + 1, ⟨a.a + 1, a.b + pagesN (Cof.get ss (i : Int)).l, a.c + tablesN (Cof.get ss (i : Int)).l, a.d + (Cof.get ss (i : Int)).l.length⟩) fun _ _ hf hs => ⟨⟨by show i + 1 ≤ m; omega, hnx, hat.symm⟩, by show m - (i + 1) < m - i; omega, hf.sub (by (repeat' (first | exact trivial | refine And.intro rfl ?_)); done), hs.imp fun h hs => by first | exact stars_only [2, 2] rfl h hs | exact stars_only [1, 1] rfl h hs | exact stars_only [0, 2] rfl h hs⟩
          | (exfalso; omega)
          | skip
        
      · rw [needs_bad hz] at hnd
        rw [if_neg hz] at hat
        repeat' (first | (refine XL_id ?_; first | refine XL_nil ?_ | (refine XG_load ?_; first | refine XL_loadW tt_ok 0 rfl rfl rfl rfl rfl rfl ?_ | refine XL_elW tt_ok rfl (by assumption) rfl (by omega) (by omega) rfl rfl rfl rfl ?_) | (refine XG_idx ?_; refine XL_idx tt_ok rfl rfl rfl rfl rfl (by assumption) (by omega) (by omega) rfl ?_) | (refine XG_build ?_; (refine XL_build tt_ok rfl rfl rfl rfl rfl rfl rfl ?_; refine XL_aggN (by repeat' (first | exact .nil | apply NL.cons)) ?_)) | (refine XG_call ?_; refine XL_fn hnd rfl rfl (fun g hg _ => hsub.le hg) ?_) | (refine XG_alloc ?_; (refine XL_alloc tt_ok rfl rfl (fun _ => rfl) (fun b => ?_); refine XL_nB (by repeat' (first | exact .nil | apply NL.cons)) ?_)) | (refine XG_store ?_; first | (refine XL_storeW tt_ok 0 rfl rfl rfl rfl rfl rfl rfl ?_; refine XL_nK 0 rfl (by repeat' (first | exact .nil | apply NL.cons)) ?_) | (refine XL_storeW tt_ok 3 rfl rfl rfl rfl rfl rfl rfl ?_; refine XL_nK 3 rfl (by repeat' (first | exact .nil | apply NL.cons)) ?_)) | (refine XL_op tt_ok rfl rfl ?_; try (refine XL_dec_t (by omega) ?_))) | (refine X_id ?_; first | refine X_seq ?_ | (refine X_regionN (by repeat' (first | exact .nil | apply NL.cons)) ?_) | refine X_skip ?_ | refine X_ret ?_ | refine X_block ?_ | refine X_cond_t rfl ?_) | (refine Y_id ?_; first | refine Y_then ?_ | refine Y_then_ret ?_ | refine Y_block_ret ?_))
        all_goals first
          | exact Y_res2 rfl (.cell tt_ok 3 rfl rfl rfl rfl rfl) (.tmp rfl) (L' := []) (fun _ _ => trivial) ⟨by rw [hat]; rfl, rfl⟩
          | exact Y_res2 rfl (.cell tt_ok 2 rfl rfl rfl rfl rfl) (.tmp rfl) (L' := []) (fun _ _ => trivial) ⟨by rw [hat]; rfl, rfl⟩
          | exact Y_res2 rfl (.cell tt_ok 1 rfl rfl rfl rfl rfl) (.tmp rfl) (L' := []) (fun _ _ => trivial) ⟨by rw [hat]; rfl, rfl⟩
          | (exfalso; omega)
          | skip
        
    · rw [List.drop_of_length_le (by omega)] at hx
      have hx : (a, (0 : Int)) = sumF (ss.map key) ⟨0, 0, 0, 0⟩ := hx
      repeat' (first | (refine XL_id ?_; first | refine XL_nil ?_ | (refine XG_load ?_; refine XL_loadW tt_ok 0 rfl rfl rfl rfl rfl rfl ?_) | (refine XG_store ?_; (refine XL_storeW tt_ok 1 rfl rfl rfl rfl rfl rfl rfl ?_; refine XL_nK 1 rfl (by repeat' (first | exact .nil | apply NL.cons)) ?_)) | (refine XL_op tt_ok rfl rfl ?_; try (refine XL_dec_f (by omega) ?_))) | (refine X_id ?_; first | refine X_seq ?_ | (refine X_regionN (by repeat' (first | exact .nil | apply NL.cons)) ?_) | refine X_ret ?_ | refine X_exit ?_ | refine X_cond_f rfl ?_) | (refine Y_id ?_; first | refine Y_then ?_ | refine Y_then_exit ?_ | refine Y_block_hit ?_))
      all_goals first
        | exact Y_res2 rfl (.cell tt_ok 1 rfl rfl rfl rfl rfl) (.tmp rfl) (L' := []) (fun _ _ => trivial) ⟨by rw [← hx]; rfl, rfl⟩
        | exact Y_res2 rfl (.cell tt_ok 0 rfl rfl rfl rfl rfl) (.tmp rfl) (L' := []) (fun _ _ => trivial) ⟨by rw [← hx]; rfl, rfl⟩
        | (exfalso; omega)
        | skip
      
set_option maxHeartbeats 16000000 in
theorem qsum_spec (A : Option Addr) (m c : Nat) (ss : List Sv) (hm : m ≤ 9223372036854775807) (hS : ∀ s ∈ ss, s.Ok) :
    FnC Try.prog 22 [.slice A m c] (fun g => SvsR g A m ss) (nsV (sumR (ss.map key))) := by
  unfold sumR
  rw [List.length_map]
  by_cases hmany : 16 < ss.length
  · rw [if_pos hmany]
    refine Ctr.intro Try.func22 rfl rfl (by decide +kernel) fun F hpre => ?_
    have hpre : SvsR F.heap A m ss := hpre
    have hlen := hpre.rd.1
    repeat' (first | (refine XL_id ?_; first | refine XL_nil ?_ | (refine XG_build ?_; (refine XL_build tt_ok rfl rfl rfl rfl rfl rfl rfl ?_; refine XL_aggN (by repeat' (first | exact .nil | apply NL.cons)) ?_)) | (refine XG_alloc ?_; (refine XL_alloc tt_ok rfl rfl (fun _ => rfl) (fun b => ?_); refine XL_nB (by repeat' (first | exact .nil | apply NL.cons)) ?_)) | (refine XG_store ?_; (refine XL_storeW tt_ok 0 rfl rfl rfl rfl rfl rfl rfl ?_; refine XL_nK 0 rfl (by repeat' (first | exact .nil | apply NL.cons)) ?_)) | (refine XL_op tt_ok rfl rfl ?_; try (refine XL_dec_t (by omega) ?_))) | (refine X_id ?_; first | refine X_seq ?_ | (refine X_regionN (by repeat' (first | exact .nil | apply NL.cons)) ?_) | refine X_ret ?_ | refine X_cond_t rfl ?_) | (refine Y_id ?_; first | refine Y_then ?_ | refine Y_then_ret ?_))
    all_goals first
      | exact Y_res2 rfl (.cell tt_ok 0 rfl rfl rfl rfl rfl) (.tmp rfl) (L' := []) (fun _ _ => trivial) ⟨rfl, rfl⟩
      | (exfalso; omega)
      | skip
    
  · rw [if_neg hmany]
    refine Ctr.intro Try.func22 rfl rfl (by decide +kernel) fun F hpre => ?_
    have hpre : SvsR F.heap A m ss := hpre
    have hlen := hpre.rd.1
    have rr := hpre.rd
    repeat' (first | (refine XL_id ?_; first | refine XL_nil ?_ | (refine XG_alloc ?_; (refine XL_alloc tt_ok rfl rfl (fun _ => rfl) (fun b4 => ?_); refine XL_nB (by repeat' (first | exact .nil | apply NL.cons)) ?_)) | (refine XG_build ?_; (refine XL_build tt_ok rfl rfl rfl rfl rfl rfl rfl ?_; refine XL_aggN (by repeat' (first | exact .nil | apply NL.cons)) ?_)) | (refine XG_store ?_; (refine XL_storeW tt_ok 0 rfl rfl rfl rfl rfl rfl rfl ?_; refine XL_nK 0 rfl (by repeat' (first | exact .nil | apply NL.cons)) ?_)) | (refine XL_op tt_ok rfl rfl ?_; try (refine XL_dec_f (by omega) ?_))) | (refine X_id ?_; first | refine X_block (id := 0) (hold ?_) | refine X_seq ?_ | (refine X_regionN (by repeat' (first | exact .nil | apply NL.cons)) ?_) | refine X_skip ?_ | refine X_cond_f rfl ?_) | (refine Y_id ?_; refine Y_then ?_))
    all_goals first
      | (exfalso; omega)
      | skip
    intro _
    refine X_loopD2 [0, 2, 4] (fun (i : Nat) (a : Nd) => [(5, .int .i64 i)]) (fun _ a => [blk b4 [iV a.a, iV a.b, iV a.c, iV a.d] 45, _]) (fun i a => i ≤ m ∧ Sr a i ∧ sumF ((ss.drop i).map key) a = sumF (ss.map key) ⟨0, 0, 0, 0⟩) (fun i _ => m - i) 0 ⟨0, 0, 0, 0⟩ rfl ⟨Nat.zero_le _, ⟨rfl, by decide, by decide, by decide⟩, rfl⟩ (by (repeat' (first | exact trivial | refine And.intro rfl ?_)); done) (fun _ h => h) ?_
    intro i a hi
    obtain ⟨hi, hsr, hx⟩ := hi
    have k1 := hsr.qa; have k2 := hsr.qb; have k3 := hsr.qc; have k4 := hsr.qd
    by_cases hlt : i < m
    · have hmem := Vm.get_mem (l := ss) (i := (i : Int)) (by omega) (by omega)
      have hok := hS _ hmem
      have hsub := hpre.sub _ hmem
      have hnd := qneeds_spec (Cof.get ss (i : Int)).A (Cof.get ss (i : Int)).m (Cof.get ss (i : Int)).c (Cof.get ss (i : Int)).l (Cof.get ss (i : Int)).h (by have := hok.m; omega) hok.all
      have hat := sumF_at (ss := ss) (i := i) (by omega) a
      rw [hx] at hat
      by_cases hz : scheck (Cof.get ss (i : Int)).l (Cof.get ss (i : Int)).h = 0
      · have hg := sgood_iff.1 hz
        rw [needs_good hg] at hnd
        rw [if_pos hz] at hat
        have hnx := hsr.next hg
        have p1 := pages_rng hg.fine
        have p2 := tables_rng (Cof.get ss (i : Int)).l
        have p3 := hg.fine.len
        repeat' (first | (refine XL_id ?_; first | refine XL_nil ?_ | (refine XG_load ?_; first | refine XL_load tt_ok 0 rfl rfl rfl rfl rfl rfl ?_ | refine XL_load tt_ok 1 rfl rfl rfl rfl rfl rfl ?_ | refine XL_elW tt_ok rfl (by assumption) rfl (by omega) (by omega) rfl rfl rfl rfl ?_) | (refine XG_idx ?_; refine XL_idx tt_ok rfl rfl rfl rfl rfl (by assumption) (by omega) (by omega) rfl ?_) | (refine XG_build ?_; (refine XL_build tt_ok rfl rfl rfl rfl rfl rfl rfl ?_; refine XL_aggN (by repeat' (first | exact .nil | apply NL.cons)) ?_)) | (refine XG_call ?_; first | (refine XL_op tt_ok rfl rfl ?_) | refine XL_fn hnd rfl rfl (fun g hg _ => hsub.le hg) ?_) | (refine XG_alloc ?_; (refine XL_alloc tt_ok rfl rfl (fun _ => rfl) (fun b => ?_); refine XL_nB (by repeat' (first | exact .nil | apply NL.cons)) ?_)) | (refine XG_store ?_; first | (refine XL_storeW tt_ok 0 rfl rfl rfl rfl rfl rfl rfl ?_; refine XL_nK 0 rfl (by repeat' (first | exact .nil | apply NL.cons)) ?_) | (refine XL_storeW tt_ok 1 rfl rfl rfl rfl rfl rfl rfl ?_; refine XL_nK 1 rfl (by repeat' (first | exact .nil | apply NL.cons)) ?_)) | (refine XL_op tt_ok rfl rfl ?_; try (first | refine XL_int (wrap_i64 (by omega) (by omega)) ?_ | refine XL_dec_t (by omega) ?_ | refine XL_dec_f (by omega) ?_))) | (refine X_id ?_; first | refine X_seq ?_ | (refine X_regionN (by repeat' (first | exact .nil | apply NL.cons)) ?_) | refine X_skip ?_ | refine X_block ?_ | refine X_cond_t rfl ?_ | refine X_cond_f rfl ?_) | (refine Y_id ?_; first | refine Y_then ?_ | refine Y_block_normal ?_))
        all_goals first
          | exact Y_again (i + 1, ⟨a.a + 1, a.b + pagesN (Cof.get ss (i : Int)).l, a.c + tablesN (Cof.get ss (i : Int)).l, a.d + (Cof.get ss (i : Int)).l.length⟩) fun _ _ hf hs => ⟨⟨by show i + 1 ≤ m; omega, hnx, hat.symm⟩, by show m - (i + 1) < m - i; omega, hf.sub (by (repeat' (first | exact trivial | refine And.intro rfl ?_)); done), hs.imp fun h hs => by first | exact stars_only [2, 2] rfl h hs | exact stars_only [1, 1] rfl h hs | exact stars_only [0, 2] rfl h hs⟩
          | (exfalso; omega)
          | skip
        
      · rw [needs_bad hz] at hnd
        rw [if_neg hz] at hat
        repeat' (first | (refine XL_id ?_; first | refine XL_nil ?_ | (refine XG_load ?_; refine XL_elW tt_ok rfl (by assumption) rfl (by omega) (by omega) rfl rfl rfl rfl ?_) | (refine XG_idx ?_; refine XL_idx tt_ok rfl rfl rfl rfl rfl (by assumption) (by omega) (by omega) rfl ?_) | (refine XG_build ?_; (refine XL_build tt_ok rfl rfl rfl rfl rfl rfl rfl ?_; refine XL_aggN (by repeat' (first | exact .nil | apply NL.cons)) ?_)) | (refine XG_call ?_; first | (refine XL_op tt_ok rfl rfl ?_) | refine XL_fn hnd rfl rfl (fun g hg _ => hsub.le hg) ?_) | (refine XG_alloc ?_; (refine XL_alloc tt_ok rfl rfl (fun _ => rfl) (fun b => ?_); refine XL_nB (by repeat' (first | exact .nil | apply NL.cons)) ?_)) | (refine XG_store ?_; first | (refine XL_storeW tt_ok 0 rfl rfl rfl rfl rfl rfl rfl ?_; refine XL_nK 0 rfl (by repeat' (first | exact .nil | apply NL.cons)) ?_) | (refine XL_storeW tt_ok 2 rfl rfl rfl rfl rfl rfl rfl ?_; refine XL_nK 2 rfl (by repeat' (first | exact .nil | apply NL.cons)) ?_)) | (refine XL_op tt_ok rfl rfl ?_; try (refine XL_dec_t (by omega) ?_))) | (refine X_id ?_; first | refine X_seq ?_ | (refine X_regionN (by repeat' (first | exact .nil | apply NL.cons)) ?_) | refine X_skip ?_ | refine X_ret ?_ | refine X_block ?_ | refine X_cond_t rfl ?_) | (refine Y_id ?_; first | refine Y_then ?_ | refine Y_then_ret ?_ | refine Y_block_ret ?_))
        all_goals first
          | exact Y_res2 rfl (.cell tt_ok 3 rfl rfl rfl rfl rfl) (.tmp rfl) (L' := []) (fun _ _ => trivial) ⟨by rw [hat]; rfl, rfl⟩
          | exact Y_res2 rfl (.cell tt_ok 2 rfl rfl rfl rfl rfl) (.tmp rfl) (L' := []) (fun _ _ => trivial) ⟨by rw [hat]; rfl, rfl⟩
          | exact Y_res2 rfl (.cell tt_ok 1 rfl rfl rfl rfl rfl) (.tmp rfl) (L' := []) (fun _ _ => trivial) ⟨by rw [hat]; rfl, rfl⟩
          | (exfalso; omega)
          | skip
        
    · rw [List.drop_of_length_le (by omega)] at hx
      have hx : (a, (0 : Int)) = sumF (ss.map key) ⟨0, 0, 0, 0⟩ := hx
      repeat' (first | (refine XL_id ?_; first | refine XL_nil ?_ | (refine XG_load ?_; refine XL_loadW tt_ok 0 rfl rfl rfl rfl rfl rfl ?_) | (refine XG_store ?_; (refine XL_storeW tt_ok 1 rfl rfl rfl rfl rfl rfl rfl ?_; refine XL_nK 1 rfl (by repeat' (first | exact .nil | apply NL.cons)) ?_)) | (refine XL_op tt_ok rfl rfl ?_; try (refine XL_dec_f (by omega) ?_))) | (refine X_id ?_; first | refine X_seq ?_ | (refine X_regionN (by repeat' (first | exact .nil | apply NL.cons)) ?_) | refine X_ret ?_ | refine X_exit ?_ | refine X_cond_f rfl ?_) | (refine Y_id ?_; first | refine Y_then ?_ | refine Y_then_exit ?_ | refine Y_block_hit ?_))
      all_goals first
        | exact Y_res2 rfl (.cell tt_ok 1 rfl rfl rfl rfl rfl) (.tmp rfl) (L' := []) (fun _ _ => trivial) ⟨by rw [← hx]; rfl, rfl⟩
        | exact Y_res2 rfl (.cell tt_ok 0 rfl rfl rfl rfl rfl) (.tmp rfl) (L' := []) (fun _ _ => trivial) ⟨by rw [← hx]; rfl, rfl⟩
        | (exfalso; omega)
        | skip
      
end Go.Proofs.Ytalkcemelegohaa
