/- Address spaces: what one needs; program and document. -/
import Derived.Test.YtalkcemelegohaaSk
import Derived.Test.YtalkcemelegohaaVmRd
import Derived.Test.YtalkcemelegohaaAdTo
import Derived.Test.YtalkcemelegohaaAdRb
set_option linter.unusedVariables false
set_option maxRecDepth 100000
namespace Go.Proofs.Ytalkcemelegohaa
open Go.RowKit Go.Cof
open Vm (Rg encRg rgV checkE prm lastR Fol Good Fine atP)
open Ad (i64In)

def spsOf (l : List Rg) : List Ad.Sp := l.map fun r => ⟨r.p, r.n⟩
def pagesN (l : List Rg) : Int := l.foldl (fun s r => s + r.n) 0
def tablesN (l : List Rg) : Int := (Ad.total (spsOf l) : Nat)
abbrev ndV (a b c d : Int) : Value := .agg #[iV a, iV b, iV c, iV d]
def needsR (l : List Rg) (h : Int) : Value := if scheck l h = 0 then .tuple #[ndV 1 (pagesN l) (tablesN l) l.length, iV 0] else .tuple #[ndV 0 0 0 0, iV (scheck l h)]
theorem sps_may {l : List Rg} (h : Fine l) : ∀ s ∈ spsOf l, s.May := fun s hs => by
  obtain ⟨r, hr, rfl⟩ := List.mem_map.1 hs
  have k := h.good.ok r hr
  have k1 := k.p; have k2 := k.n; have k3 := k.e
  exact ⟨by show 0 ≤ r.p; omega, by show 0 ≤ r.n; omega, by show r.p ≤ 1048576; omega, by show r.n ≤ 1048576 - r.p; omega⟩
theorem tabs_fine {l : List Rg} (h : Fine l) : Ad.tabsF (spsOf l) = (tablesN l, 0) := Ad.tabsF_of (by unfold spsOf; rw [List.length_map]; exact h.len) (sps_may h)
theorem pages_rng {l : List Rg} (h : Fine l) : 0 ≤ pagesN l ∧ pagesN l ≤ 1073741824 := by
  have := Vm.sum_num l 0 h.good.ok
  have := h.len
  unfold pagesN; omega
theorem tables_rng (l : List Rg) : 1 ≤ tablesN l ∧ tablesN l ≤ 33825 := by
  have := Ad.total_cap (spsOf l)
  unfold tablesN; omega
theorem spans_rd {A : Option Addr} {m c : Nat} {l : List Rg} (k : Nat) {L : List HProp} (hk : L[k]? = some (own Vm.encSp A m c (l.map fun r => (r.p, r.n)))) {g : Hp} (h : stars L g) : rdS Ad.encSp g A m (spsOf l) := by
  have := (rd_at k hk h).map (E' := Ad.encSp) (fun x : Int × Int => (⟨x.1, x.2⟩ : Ad.Sp)) fun x => rfl
  rwa [List.map_map] at this


theorem needs_bad {l : List Rg} {h : Int} (hz : ¬ scheck l h = 0) : needsR l h = .tuple #[ndV 0 0 0 0, iV (scheck l h)] := if_neg hz
theorem needs_good {l : List Rg} {h : Int} (hs : SGood l h) : needsR l h = .tuple #[ndV 1 (pagesN l) (tablesN l) l.length, iV 0] := if_pos (sgood_iff.2 hs)
set_option maxHeartbeats 8000000 in
theorem needs_spec (A : Option Addr) (m c : Nat) (l : List Rg) (h : Int) (hm : m ≤ 9223372036854775807) (hl : ∀ r ∈ l, r.In) :
    FnC Try.prog 23 [.agg #[.slice A m c, iV h]] (fun g => rdS encRg g A m l) (needsR l h) := by
  have hc := scheck_spec A m c l h hm hl
  by_cases hz : scheck l h = 0
  · have hs := sgood_iff.1 hz
    rw [needs_good hs]
    rw [hz] at hc
    have hk := Vm.fine_iff.2 hs.fine
    have hp := Vm.pagesOf_spec A m c l hm hl
    have hsp := Vm.spansOf_spec A m c l hm hl
    rw [Vm.pagesP_2 (by omega)] at hp
    rw [Vm.spansP_2 (by omega)] at hsp
    have hp : FnC Try.prog 49 [.slice A m c] (fun g => rdS encRg g A m l) (.tuple #[iV (pagesN l), iV 0]) := hp
    have hpr := pages_rng hs.fine
    have htr := tables_rng l
    have htb : ∀ B c2, FnC Try.prog 51 [.slice B l.length c2] (fun g => rdS Ad.encSp g B l.length (spsOf l)) (.tuple #[iV (tablesN l), iV 0]) := fun B c2 => by
      have := Ad.tables_spec B l.length c2 (spsOf l) (fun s h => Ad.may64 (sps_may hs.fine s h)) (by have := hs.fine.len; omega)
      rw [tabs_fine hs.fine] at this; exact this
    have hlen8 := hs.fine.len
    refine Ctr.intro Try.func23 rfl rfl (by decide +kernel) fun F hpre => ?_
    have r1 : rdS encRg F.heap A m l := hpre
    have hlen := r1.1
    repeat' (first | (refine XL_id ?_; first | refine XL_nil ?_ | (refine XG_load ?_; first | refine XL_loadW tt_ok 1 rfl rfl rfl rfl rfl rfl ?_ | refine XL_load tt_ok 1 rfl rfl rfl rfl rfl rfl ?_) | (refine XG_box ?_; (refine XL_box rfl (fun _ => rfl) (fun _ => ?_); refine XL_nB (by repeat' (first | exact .nil | apply NL.cons)) ?_)) | (refine XG_build ?_; (refine XL_build tt_ok rfl rfl rfl rfl rfl rfl rfl ?_; refine XL_aggN (by repeat' (first | exact .nil | apply NL.cons)) ?_)) | (refine XG_call ?_; first | (refine XL_op tt_ok rfl rfl ?_) | refine XL_fn hc rfl rfl (fun g hg _ => r1.le hg) ?_ | refine XL_fn hp rfl rfl (fun g hg _ => r1.le hg) ?_ | (refine XL_callK [] hsp rfl rfl (fun _ => rfl) (fun g hg hL => r1.le hg) (fun u L hv => ?_); obtain ⟨A2, m2, c2, x2, ho1, ho2, rfl, rfl⟩ := LRes.ex hv; subst ho1; rw [List.length_map] at ho2; subst ho2) | refine XL_fn (htb _ _) rfl rfl (fun g hg hL => spans_rd 0 rfl hL) ?_) | (refine XG_alloc ?_; (refine XL_alloc tt_ok rfl rfl (fun _ => rfl) (fun b => ?_); refine XL_nB (by repeat' (first | exact .nil | apply NL.cons)) ?_)) | (refine XG_store ?_; (refine XL_storeW tt_ok 1 rfl rfl rfl rfl rfl rfl rfl ?_; refine XL_nK 1 rfl (by repeat' (first | exact .nil | apply NL.cons)) ?_)) | (refine XL_op tt_ok rfl rfl ?_; try (refine XL_dec_f (by omega) ?_))) | (refine X_id ?_; first | refine X_seq ?_ | (refine X_regionN (by repeat' (first | exact .nil | apply NL.cons)) ?_) | refine X_skip ?_ | refine X_ret ?_ | refine X_cond_f rfl ?_) | (refine Y_id ?_; refine Y_then ?_))
    all_goals first
      | exact Y_res2 rfl (.cell tt_ok 1 rfl rfl rfl rfl rfl) (.tmp rfl) (L' := []) (fun _ _ => trivial) ⟨rfl, rfl⟩
      | exact Y_res2 rfl (.cell tt_ok 0 rfl rfl rfl rfl rfl) (.tmp rfl) (L' := []) (fun _ _ => trivial) ⟨rfl, rfl⟩
      | exact Y_res2 rfl (.cell tt_ok 2 rfl rfl rfl rfl rfl) (.tmp rfl) (L' := []) (fun _ _ => trivial) ⟨rfl, rfl⟩
      | (exfalso; omega)
      | skip
    
  · rw [needs_bad hz]
    refine Ctr.intro Try.func23 rfl rfl (by decide +kernel) fun F hpre => ?_
    have r1 : rdS encRg F.heap A m l := hpre
    repeat' (first | (refine XL_id ?_; first | refine XL_nil ?_ | (refine XG_load ?_; refine XL_loadW tt_ok 1 rfl rfl rfl rfl rfl rfl ?_) | (refine XG_box ?_; (refine XL_box rfl (fun _ => rfl) (fun _ => ?_); refine XL_nB (by repeat' (first | exact .nil | apply NL.cons)) ?_)) | (refine XG_build ?_; (refine XL_build tt_ok rfl rfl rfl rfl rfl rfl rfl ?_; refine XL_aggN (by repeat' (first | exact .nil | apply NL.cons)) ?_)) | (refine XG_call ?_; refine XL_fn hc rfl rfl (fun g hg _ => r1.le hg) ?_) | (refine XG_alloc ?_; (refine XL_alloc tt_ok rfl rfl (fun _ => rfl) (fun b => ?_); refine XL_nB (by repeat' (first | exact .nil | apply NL.cons)) ?_)) | (refine XG_store ?_; (refine XL_storeW tt_ok 0 rfl rfl rfl rfl rfl rfl rfl ?_; refine XL_nK 0 rfl (by repeat' (first | exact .nil | apply NL.cons)) ?_)) | (refine XL_op tt_ok rfl rfl ?_; try (refine XL_dec_t (by omega) ?_))) | (refine X_id ?_; first | refine X_seq ?_ | (refine X_regionN (by repeat' (first | exact .nil | apply NL.cons)) ?_) | refine X_ret ?_ | refine X_cond_t rfl ?_) | (refine Y_id ?_; first | refine Y_then ?_ | refine Y_then_ret ?_))
    all_goals first
      | exact Y_res2 rfl (.cell tt_ok 0 rfl rfl rfl rfl rfl) (.tmp rfl) (L' := []) (fun _ _ => trivial) ⟨rfl, rfl⟩
      | (exfalso; omega)
      | skip
    
set_option maxHeartbeats 8000000 in
theorem qneeds_spec (A : Option Addr) (m c : Nat) (l : List Rg) (h : Int) (hm : m ≤ 9223372036854775807) (hl : ∀ r ∈ l, r.In) :
    FnC Try.prog 24 [.agg #[.slice A m c, iV h]] (fun g => rdS encRg g A m l) (needsR l h) := by
  have hc := qcheck_spec A m c l h hm hl
  by_cases hz : scheck l h = 0
  · have hs := sgood_iff.1 hz
    rw [needs_good hs]
    rw [hz] at hc
    have hk := Vm.fine_iff.2 hs.fine
    have hp := Vm.rpagesOf_spec A m c l hm hl
    have hsp := Vm.rspansOf_spec A m c l hm hl
    rw [Vm.pagesP_2 (by omega)] at hp
    rw [Vm.spansP_2 (by omega)] at hsp
    have hp : FnC Try.prog 52 [.slice A m c] (fun g => rdS encRg g A m l) (.tuple #[iV (pagesN l), iV 0]) := hp
    have hpr := pages_rng hs.fine
    have htr := tables_rng l
    have htb : ∀ B c2, FnC Try.prog 54 [.slice B l.length c2] (fun g => rdS Ad.encSp g B l.length (spsOf l)) (.tuple #[iV (tablesN l), iV 0]) := fun B c2 => by
      have := Ad.rtables_spec B l.length c2 (spsOf l) (fun s h => Ad.may64 (sps_may hs.fine s h)) (by have := hs.fine.len; omega)
      rw [tabs_fine hs.fine] at this; exact this
    have hlen8 := hs.fine.len
    refine Ctr.intro Try.func24 rfl rfl (by decide +kernel) fun F hpre => ?_
    have r1 : rdS encRg F.heap A m l := hpre
    have hlen := r1.1
    repeat' (first | (refine XL_id ?_; first | refine XL_nil ?_ | (refine XG_load ?_; first | refine XL_loadW tt_ok 1 rfl rfl rfl rfl rfl rfl ?_ | refine XL_load tt_ok 1 rfl rfl rfl rfl rfl rfl ?_) | (refine XG_box ?_; (refine XL_box rfl (fun _ => rfl) (fun _ => ?_); refine XL_nB (by repeat' (first | exact .nil | apply NL.cons)) ?_)) | (refine XG_build ?_; (refine XL_build tt_ok rfl rfl rfl rfl rfl rfl rfl ?_; refine XL_aggN (by repeat' (first | exact .nil | apply NL.cons)) ?_)) | (refine XG_call ?_; first | (refine XL_op tt_ok rfl rfl ?_) | refine XL_fn hc rfl rfl (fun g hg _ => r1.le hg) ?_ | refine XL_fn hp rfl rfl (fun g hg _ => r1.le hg) ?_ | (refine XL_callK [] hsp rfl rfl (fun _ => rfl) (fun g hg hL => r1.le hg) (fun u L hv => ?_); obtain ⟨A2, m2, c2, x2, ho1, ho2, rfl, rfl⟩ := LRes.ex hv; subst ho1; rw [List.length_map] at ho2; subst ho2) | refine XL_fn (htb _ _) rfl rfl (fun g hg hL => spans_rd 0 rfl hL) ?_) | (refine XG_alloc ?_; (refine XL_alloc tt_ok rfl rfl (fun _ => rfl) (fun b => ?_); refine XL_nB (by repeat' (first | exact .nil | apply NL.cons)) ?_)) | (refine XG_store ?_; (refine XL_storeW tt_ok 1 rfl rfl rfl rfl rfl rfl rfl ?_; refine XL_nK 1 rfl (by repeat' (first | exact .nil | apply NL.cons)) ?_)) | (refine XL_op tt_ok rfl rfl ?_; try (refine XL_dec_f (by omega) ?_))) | (refine X_id ?_; first | refine X_seq ?_ | (refine X_regionN (by repeat' (first | exact .nil | apply NL.cons)) ?_) | refine X_skip ?_ | refine X_ret ?_ | refine X_cond_f rfl ?_) | (refine Y_id ?_; refine Y_then ?_))
    all_goals first
      | exact Y_res2 rfl (.cell tt_ok 1 rfl rfl rfl rfl rfl) (.tmp rfl) (L' := []) (fun _ _ => trivial) ⟨rfl, rfl⟩
      | exact Y_res2 rfl (.cell tt_ok 0 rfl rfl rfl rfl rfl) (.tmp rfl) (L' := []) (fun _ _ => trivial) ⟨rfl, rfl⟩
      | exact Y_res2 rfl (.cell tt_ok 2 rfl rfl rfl rfl rfl) (.tmp rfl) (L' := []) (fun _ _ => trivial) ⟨rfl, rfl⟩
      | (exfalso; omega)
      | skip
    
  · rw [needs_bad hz]
    refine Ctr.intro Try.func24 rfl rfl (by decide +kernel) fun F hpre => ?_
    have r1 : rdS encRg F.heap A m l := hpre
    repeat' (first | (refine XL_id ?_; first | refine XL_nil ?_ | (refine XG_load ?_; refine XL_loadW tt_ok 1 rfl rfl rfl rfl rfl rfl ?_) | (refine XG_box ?_; (refine XL_box rfl (fun _ => rfl) (fun _ => ?_); refine XL_nB (by repeat' (first | exact .nil | apply NL.cons)) ?_)) | (refine XG_build ?_; (refine XL_build tt_ok rfl rfl rfl rfl rfl rfl rfl ?_; refine XL_aggN (by repeat' (first | exact .nil | apply NL.cons)) ?_)) | (refine XG_call ?_; refine XL_fn hc rfl rfl (fun g hg _ => r1.le hg) ?_) | (refine XG_alloc ?_; (refine XL_alloc tt_ok rfl rfl (fun _ => rfl) (fun b => ?_); refine XL_nB (by repeat' (first | exact .nil | apply NL.cons)) ?_)) | (refine XG_store ?_; (refine XL_storeW tt_ok 0 rfl rfl rfl rfl rfl rfl rfl ?_; refine XL_nK 0 rfl (by repeat' (first | exact .nil | apply NL.cons)) ?_)) | (refine XL_op tt_ok rfl rfl ?_; try (refine XL_dec_t (by omega) ?_))) | (refine X_id ?_; first | refine X_seq ?_ | (refine X_regionN (by repeat' (first | exact .nil | apply NL.cons)) ?_) | refine X_ret ?_ | refine X_cond_t rfl ?_) | (refine Y_id ?_; first | refine Y_then ?_ | refine Y_then_ret ?_))
    all_goals first
      | exact Y_res2 rfl (.cell tt_ok 0 rfl rfl rfl rfl rfl) (.tmp rfl) (L' := []) (fun _ _ => trivial) ⟨rfl, rfl⟩
      | (exfalso; omega)
      | skip
    
end Go.Proofs.Ytalkcemelegohaa
