/- A configuration of one's own; Copy. -/
import Derived.Test.YtpokfingnflblaaSb
set_option linter.unusedVariables false
namespace Go.Proofs.Ytpokfingnflblaa
open Go.RowKit Go.Cof

def ownC (q : Pt) : HProp := own encN q.A q.m q.c q.d.xs
def allC (l : List Pt) : HProp := stars (l.map ownC)
theorem allC_rd {l : List Pt} {h : Hp} (hs : allC l h) : ∀ p ∈ l, rdS encN h p.A p.m p.d.xs := fun p hp => by
  obtain ⟨k, hk, rfl⟩ := List.getElem_of_mem hp
  exact rd_at k (by rw [List.getElem?_map, List.getElem?_eq_getElem hk]; rfl) hs
theorem allC_nil (h : Hp) : allC [] h := trivial
theorem stars_flat {L M : List HProp} {h : Hp} (hs : stars (stars L :: M) h) : stars (L ++ M) h := by
  obtain ⟨g1, g2, d, a, b, hA, hB⟩ := hs
  exact stars_append.2 ⟨g1, g2, d, a, b, hA, hB⟩
theorem stars_fold {L M : List HProp} {h : Hp} (hs : stars (L ++ M) h) : stars (stars L :: M) h := by
  obtain ⟨g1, g2, d, a, b, hA, hB⟩ := stars_append.1 hs
  exact ⟨g1, g2, d, a, b, hA, hB⟩
theorem allC_snoc {l : List Pt} {q : Pt} {M : List HProp} {h : Hp} (hs : stars (ownC q :: allC l :: M) h) : stars (allC (l ++ [q]) :: M) h := by
  have e : (l ++ [q]).map ownC ++ M = l.map ownC ++ (ownC q :: M) := by simp
  refine stars_fold ?_
  rw [e]
  have h1 : stars (allC l :: ownC q :: M) h := stars_take [1] rfl hs
  exact stars_flat h1
def isCf (d : Cd) (y : Ly) : HProp := fun h => (y.ps.map Pt.d = d.ps ∧ y.Fit) ∧ stars [own encN y.tA y.tm y.tc d.tn, own encPt y.pA y.pm y.pc y.ps, allC y.ps] h
theorem isCf_R {d : Cd} {y : Ly} {h : Hp} (hs : isCf d y h) : CfR h d y := by
  obtain ⟨⟨he, _⟩, hs⟩ := hs
  refine ⟨rd_at 0 rfl hs, rd_at 1 rfl hs, ?_, he⟩
  obtain ⟨_, hl, hb⟩ := at_mem 2 rfl hs
  exact fun p hp => (allC_rd hb p hp).le hl
theorem isCf_mk {d : Cd} {y : Ly} (he : y.ps.map Pt.d = d.ps) (h1 : y.tm * 8 ≤ 140737488355328) (h2 : y.pm * 80 ≤ 140737488355328) (h3 : ∀ p ∈ y.ps, p.m * 8 ≤ 140737488355328) : ∀ h, stars [own encN y.tA y.tm y.tc d.tn, own encPt y.pA y.pm y.pc y.ps, allC y.ps] h → isCf d y h := fun h hs => by
  obtain ⟨_, _, hb⟩ := at_mem 1 rfl hs
  have := own_len hb
  exact ⟨⟨he, h1, h2, h3, this.2.1, Nat.le_trans this.2.2 (by decide)⟩, hs⟩
set_option maxHeartbeats 8000000 in
theorem copy_spec (d : Cd) (y : Ly) (hf : y.Fit) : Ctr Try.prog 8 [cfV d y] (fun h => CfR h d y) [] (fun v L => ∃ y', v = cfV d y' ∧ L = [isCf d y']) := by
  have hft := hf.t
  have hfp := hf.p
  have hcap := hf.cap
  refine Ctr.intro Try.func8 rfl rfl (by decide +kernel) fun F hpre => ?_
  have hpre : CfR F.heap d y := hpre
  have r1 := hpre.ps
  have hct := copyInts_spec y.tA y.tm y.tc d.tn (by omega)
  repeat' (first | (refine XL_id ?_; first | refine XL_nil ?_ | (refine XG_box ?_; (refine XL_box rfl (fun _ => rfl) (fun bx => ?_); refine XL_nB (by repeat' (first | exact .nil | apply NL.cons)) ?_)) | (refine XG_load ?_; first | refine XL_loadW tt_ok 1 rfl rfl rfl rfl rfl rfl ?_ | refine XL_load tt_ok 2 rfl rfl rfl rfl rfl rfl ?_) | (refine XG_call ?_; (refine XL_callK [] hct rfl rfl (fun _ => rfl) (fun g hg hL => hpre.tn.le hg) (fun u L hv => ?_); obtain ⟨tA, tc, rfl, rfl⟩ := hv)) | (refine XG_alloc ?_; (refine XL_alloc tt_ok rfl rfl (fun _ => rfl) (fun b => ?_); refine XL_nB (by repeat' (first | exact .nil | apply NL.cons)) ?_)) | (refine XG_store ?_; first | (refine XL_storeW tt_ok 0 rfl rfl rfl rfl rfl rfl rfl ?_; refine XL_nK 0 rfl (by repeat' (first | exact .nil | apply NL.cons)) ?_) | (refine XL_store tt_ok 1 rfl rfl rfl rfl rfl rfl rfl rfl ?_; refine XL_nK 1 rfl (by repeat' (first | exact .nil | apply NL.cons)) ?_)) | (refine XL_op tt_ok rfl rfl ?_)) | (refine X_id ?_; first | refine X_block (hold ?_) | refine X_seq ?_ | (refine X_regionN (by repeat' (first | exact .nil | apply NL.cons)) ?_)) | (refine Y_id ?_; refine Y_then ?_))
  intro _
  refine X_loopD4 [1, 2, 3] (fun (i : Nat) (A2 : Option Addr) (c2 : Nat) (zs : List Pt) => [(4, .int .i64 i)]) (fun i A2 c2 zs => [own encPt A2 i c2 zs, allC zs, own encN tA y.tm tc d.tn, blk b (cfL d ⟨tA, y.tm, tc, A2, i, c2, zs⟩) 28, _, _]) (fun i A2 c2 zs => i ≤ y.pm ∧ zs.map Pt.d = d.ps.take i ∧ ∀ p ∈ zs, p.m * 8 ≤ 140737488355328) (fun i _ _ _ => y.pm - i) 0 none 0 [] rfl ⟨Nat.zero_le _, rfl, fun p hp => by cases hp⟩ (by (repeat' (first | exact trivial | refine And.intro rfl ?_)); done) (fun h hs => stars_new (own_nil encPt _) (stars_new (allC_nil _) hs)) ?_
  intro i A2 c2 zs hi
  obtain ⟨hi, hz, hzf⟩ := hi
  by_cases hlt : i < y.pm
  · have hxf := hf.x _ (get_memN hpre hlt)
    have rk := hpre.xs _ (get_memN hpre hlt)
    have hdat := get_dat hpre hlt
    have hcp := copyInts_spec (Cof.get y.ps (i : Int)).A (Cof.get y.ps (i : Int)).m (Cof.get y.ps (i : Int)).c (Cof.get y.ps (i : Int)).d.xs hxf
    have hsn : d.ps.take (i + 1) = d.ps.take i ++ [(Cof.get y.ps (i : Int)).d] := by
      have hl := hpre.len
      rw [hdat, List.take_succ_eq_append_getElem (by omega)]
      congr 2
      rw [get_nat, List.getD_eq_getElem?_getD, List.getElem?_eq_getElem (by omega)]
      rfl
    repeat' (first | (refine XL_id ?_; first | refine XL_nil ?_ | (refine XG_load ?_; first | refine XL_loadW tt_ok 1 rfl rfl rfl rfl rfl rfl ?_ | refine XL_load tt_ok 0 rfl rfl rfl rfl rfl rfl ?_ | refine XL_load tt_ok 5 rfl rfl rfl rfl rfl rfl ?_ | refine XL_elW tt_ok rfl (by assumption) rfl (by omega) (by omega) rfl rfl rfl rfl ?_) | (refine XG_idx ?_; refine XL_idx tt_ok rfl rfl rfl rfl rfl (by assumption) (by omega) (by omega) rfl ?_) | (refine XG_call ?_; first | (refine XL_op tt_ok rfl rfl ?_) | (refine XL_callK [] hcp rfl rfl (fun _ => rfl) (fun g hg hL => rk.le hg) (fun u L hv => ?_); obtain ⟨A9, c9, rfl, rfl⟩ := hv) | (refine XL_app1 (E := encPt) tt_ok 3 0 ⟨A9, (Cof.get y.ps (i : Int)).m, c9, (Cof.get y.ps (i : Int)).d⟩ rfl rfl rfl rfl rfl rfl rfl rfl rfl rfl rfl (by show (_ : Nat) * 80 ≤ _; omega) (by omega) (fun _ _ => rfl) (fun A3 c3 => ?_))) | (refine XG_alloc ?_; (refine XL_alloc tt_ok rfl rfl (fun _ => rfl) (fun b => ?_); refine XL_nB (by repeat' (first | exact .nil | apply NL.cons)) ?_)) | (refine XG_lit ?_; (refine XL_lit tt_ok rfl rfl rfl rfl rfl rfl rfl rfl rfl (fun _ => rfl) (fun b => ?_); refine XL_nB (by repeat' (first | exact .nil | apply NL.cons)) ?_)) | (refine XG_store ?_; first | (refine XL_storeW tt_ok 0 rfl rfl rfl rfl rfl rfl rfl ?_; refine XL_nK 0 rfl (by repeat' (first | exact .nil | apply NL.cons)) ?_) | (refine XL_store tt_ok 1 rfl rfl rfl rfl rfl rfl rfl rfl ?_; refine XL_nK 1 rfl (by repeat' (first | exact .nil | apply NL.cons)) ?_) | (refine XL_store tt_ok 6 rfl rfl rfl rfl rfl rfl rfl rfl ?_; refine XL_nK 6 rfl (by repeat' (first | exact .nil | apply NL.cons)) ?_)) | (refine XL_op tt_ok rfl rfl ?_; try (first | refine XL_int (wrap_i64 (by omega) (by omega)) ?_ | refine XL_dec_t (by omega) ?_))) | (refine X_id ?_; first | refine X_seq ?_ | (refine X_regionN (by repeat' (first | exact .nil | apply NL.cons)) ?_) | refine X_skip ?_ | refine X_block ?_ | refine X_cond_t rfl ?_) | (refine Y_id ?_; first | refine Y_then ?_ | refine Y_block_normal ?_))
    all_goals first
      | exact Y_again (i + 1, A3, c3, zs ++ [⟨A9, (Cof.get y.ps (i : Int)).m, c9, (Cof.get y.ps (i : Int)).d⟩]) fun _ _ hf hs => ⟨⟨hlt, by rw [List.map_append, hz, hsn]; rfl, fun p hp => by rcases List.mem_append.1 hp with hp | hp; exact hzf p hp; obtain rfl := List.mem_singleton.1 hp; exact hxf⟩, by show y.pm - (i + 1) < y.pm - i; omega, hf.sub (by (repeat' (first | exact trivial | refine And.intro rfl ?_)); done), hs.imp fun h hs => stars_take [1] rfl (allC_snoc (q := ⟨A9, (Cof.get y.ps (i : Int)).m, c9, (Cof.get y.ps (i : Int)).d⟩) (stars_only [1, 3, 2, 2, 2, 2, 2] rfl h hs))⟩
      | skip
    
  · obtain hie : i = y.pm := by omega
    have hall : zs.map Pt.d = d.ps := by rw [hz, hie, List.take_of_length_le (by have := hpre.len; omega)]
    repeat' (first | (refine XL_id ?_; first | refine XL_nil ?_ | (refine XG_load ?_; first | refine XL_loadW tt_ok 3 rfl rfl rfl rfl rfl rfl ?_ | refine XL_load tt_ok 5 rfl rfl rfl rfl rfl rfl ?_) | (refine XG_store ?_; (refine XL_storeW tt_ok 4 rfl rfl rfl rfl rfl rfl rfl ?_; refine XL_nK 4 rfl (by repeat' (first | exact .nil | apply NL.cons)) ?_)) | (refine XL_op tt_ok rfl rfl ?_; try (refine XL_dec_f (by omega) ?_))) | (refine X_id ?_; first | refine X_seq ?_ | (refine X_regionN (by repeat' (first | exact .nil | apply NL.cons)) ?_) | refine X_ret ?_ | refine X_exit ?_ | refine X_cond_f rfl ?_) | (refine Y_id ?_; first | refine Y_then ?_ | refine Y_then_exit ?_ | refine Y_block_hit ?_))
    all_goals first
      | exact Y_res1 rfl (.cell tt_ok 4 rfl rfl rfl rfl rfl) (stars_fin [2, 0, 0] rfl (isCf_mk (d := d) (y := ⟨tA, y.tm, tc, A2, i, c2, zs⟩) hall (by show y.tm * 8 ≤ _; omega) (by show i * 80 ≤ _; omega) hzf)) ⟨_, rfl, rfl⟩
      | (exfalso; omega)
      | skip
    
end Go.Proofs.Ytpokfingnflblaa
