/- A place of a partition; what two cores have alike. -/
import Derived.Test.YthmllhihldbfoaaUa
set_option linter.unusedVariables false
namespace Go.Proofs.Ythmllhihldbfoaa
open Go.RowKit Go.Cof

def frL (d : Pl.Cd) (p : Nat) : List Int := frTo d.co (Cof.get d.ps (p : Int)).xs d.fr.toNat
def plF (d : Pl.Cd) (p : Nat) (at' : Int) : Int := Cof.get (frL d p) (at' / 256 % (frL d p).length) * 256 + at' % 256
theorem frL_pos {d : Pl.Cd} (h : Pl.MayF d) {p : Nat} (hp : p < d.ps.length) : 0 < (frL d p).length := by
  have hm := h.mach
  have hc := (h.part p hp).1
  obtain ⟨g1, g2, _, _⟩ := hc.2 0 hc.1
  have hco := hm.co
  have hfr := hm.fr
  have hdv := hm.div
  have hle : d.co ≤ d.fr := Int.le_of_dvd (by omega) (Int.dvd_of_tmod_eq_zero hdv)
  have hmem : Cof.get (Cof.get d.ps (p : Int)).xs ((0 : Nat) : Int) ∈ frL d p := by
    refine frTo_mem.2 ⟨g1, by omega, ?_⟩
    rw [Int.emod_eq_of_lt g1 g2]
    exact get_mem' (by omega) (by have := hc.1; omega)
  exact List.length_pos_of_mem hmem
theorem plF_in {d : Pl.Cd} (h : Pl.MayF d) {p : Nat} (hp : p < d.ps.length) {at' : Int} (h0 : 0 ≤ at') : 0 ≤ Cof.get (frL d p) (at' / 256 % (frL d p).length) ∧ Cof.get (frL d p) (at' / 256 % (frL d p).length) < d.fr ∧ Cof.get (frL d p) (at' / 256 % (frL d p).length) % d.co ∈ (Cof.get d.ps (p : Int)).xs := by
  have hfr := h.mach.fr
  have hpos := frL_pos h hp
  have h1 := Int.emod_nonneg (at' / 256) (show ((frL d p).length : Int) ≠ 0 by omega)
  have h2 := Int.emod_lt_of_pos (at' / 256) (show (0 : Int) < (frL d p).length by omega)
  obtain ⟨a, b, c⟩ := frTo_mem.1 (get_mem' (l := frL d p) h1 h2)
  exact ⟨a, by omega, c⟩
theorem plF_rng {d : Pl.Cd} (h : Pl.MayF d) {p : Nat} (hp : p < d.ps.length) {at' : Int} (h0 : 0 ≤ at') : 0 ≤ plF d p at' ∧ plF d p at' < d.fr * 256 ∧ plF d p at' / 256 % d.co ∈ (Cof.get d.ps (p : Int)).xs := by
  obtain ⟨a, b, c⟩ := plF_in h hp h0
  unfold plF
  obtain ⟨f, hf⟩ : ∃ f, Cof.get (frL d p) (at' / 256 % (frL d p).length) = f := ⟨_, rfl⟩
  rw [hf] at a b c ⊢
  refine ⟨by omega, by omega, ?_⟩
  rw [show (f * 256 + at' % 256) / 256 = f by omega]
  exact c
set_option maxRecDepth 100000 in
set_option maxHeartbeats 8000000 in
theorem place_spec (d : Pl.Cd) (y : Pl.Ly) (hdl : d.ps.length = y.pm) (h : Pl.MayF d) (p : Nat) (hp : p < d.ps.length) (at' : Int) (h0 : 0 ≤ at') (h1 : at' ≤ 18446744073709551615) : FnC Try.prog 12 [Pl.cfV d y, iV p, uV at'] (fun g => Pl.CfR g d y) (.tuple #[uV (plF d p at'), .bool true]) := by
  have hm := h.mach
  have hfr := hm.fr
  have hco := hm.co
  have hps := hm.ps
  obtain ⟨hc0, hcg⟩ := (h.part p hp).1
  obtain ⟨q1, q2, _⟩ := plF_in h hp h0
  have hpos := frL_pos h hp
  have hlen := frTo_len d.co (Cof.get d.ps (p : Int)).xs d.fr.toNat
  have e0 := Int.emod_nonneg (at' / 256) (show ((frL d p).length : Int) ≠ 0 by omega)
  have e1 := Int.emod_lt_of_pos (at' / 256) (show (0 : Int) < (frL d p).length by omega)
  have e2 : (at' / 256).tmod ((frL d p).length : Int) = at' / 256 % ((frL d p).length : Int) := Int.tmod_eq_emod_of_nonneg (by omega)
  unfold plF
  have hfs := fun (A : Option Addr) (m c : Nat) (hmm : m = (Cof.get d.ps (p : Int)).xs.length) => frames_spec d.fr.toNat d.co A m c (Cof.get d.ps (p : Int)).xs (by omega) (by omega) hco.1 hco.2 (by have := Pl.ColP.len (h.part p hp).1; omega) (fun i hi => ⟨(hcg i (by omega)).1, (hcg i (by omega)).2.1⟩) (fun i hi => (hcg (i + 1) (by omega)).2.2.1 (by omega))
  rw [show ((d.fr.toNat : Nat) : Int) = d.fr by omega] at hfs
  have hfl : frTo d.co (Cof.get d.ps (p : Int)).xs d.fr.toNat = frL d p := rfl
  rw [hfl] at hfs hlen
  obtain ⟨ls, hls⟩ : ∃ ls, frL d p = ls := ⟨_, rfl⟩
  rw [hls] at hfs hlen e0 e1 e2 hpos q1 q2 ⊢
  obtain ⟨K, hK⟩ : ∃ K, at' / 256 % (ls.length : Int) = K := ⟨_, rfl⟩
  rw [hK] at e0 e1 e2 q1 q2 ⊢
  refine Ctr.intro Try.func12 rfl rfl (by decide +kernel) fun F hpre => ?_
  obtain ⟨c1, c2, c3, c4⟩ := hpre
  have hyl := c2.1
  have hpd : (Cof.get y.ps (p : Int)).d = Cof.get d.ps (p : Int) := by
    rw [← c4]; unfold Cof.get
    rw [List.getD_eq_getElem?_getD, List.getD_eq_getElem?_getD, List.getElem?_map]
    have hlt : p < y.ps.length := by omega
    rw [show ((p : Int)).toNat = p from rfl, List.getElem?_eq_getElem hlt]; rfl
  have hx := c3 _ (get_mem' (l := y.ps) (i := (p : Int)) (by omega) (by omega))
  rw [hpd] at hx
  repeat' (first | (refine XL_id ?_; first | refine XL_nil ?_ | refine XL_guard_yes rfl rfl rfl ?_ | (refine XG_box ?_; (refine XL_box rfl (fun _ => rfl) (fun bx => ?_); refine XL_nB (by repeat' (first | exact .nil | apply NL.cons)) ?_)) | (refine XG_load ?_; refine XL_elo tt_ok 0 rfl rfl rfl (by omega) (by omega) rfl rfl rfl rfl ?_) | (refine XG_idx ?_; refine XL_idxo tt_ok 0 rfl rfl rfl rfl rfl rfl (by omega) (by omega) rfl ?_) | (refine XG_call ?_; first | (refine XL_op tt_ok rfl rfl ?_) | (refine XL_callK [] (hfs _ _ _ hx.1) rfl rfl (fun _ => rfl) (fun g hg hL => hx.le (hFG.trans hg)) (fun u L hv => ?_); obtain ⟨B, c9, rfl, rfl⟩ := hv)) | (refine XL_op tt_ok (opV_rem rfl rfl (by omega)) rfl ?_; refine XL_int e2 ?_) | (refine XL_op tt_ok rfl rfl ?_; try (first | refine XL_int (shl8_u64 (by omega) (by omega)) ?_ | refine XL_int (wrap_i64 (by omega) (by omega)) ?_ | refine XL_int (wrap_u64 (by omega) (by omega)) ?_ | refine XL_int (quo_u64 (by omega) (by omega) (by omega)) ?_ | refine XL_int (rem_pos (by omega)) ?_ | refine XL_dec_f (by omega) ?_))) | (refine XD_id ?_; first | (refine XD_thaw thaw ?_; refine XD_nil ?_) | (refine XD_id ?_; (first | (refine XD_uL rfl ?_; first | refine XD_s rfl rfl rfl (XV_load tt_ok rfl (blk_at 0 rfl hM) rfl rfl rfl) rfl ?_ | refine XD_s rfl rfl rfl (XV_el tt_ok rfl (rdS.le (by assumption) hFG) rfl (by omega) (by omega) rfl rfl rfl) rfl ?_) | (refine XD_uI rfl ?_; refine XD_s rfl rfl rfl (XV_idx tt_ok rfl rfl rfl rfl rfl (rdS.le (by assumption) hFG) (by omega) (by omega)) rfl ?_) | (refine XD_u rfl rfl ?_; refine XD_s rfl rfl rfl (XV_op tt_ok rfl) rfl ?_))) | refine XD_m rfl rfl ?_) | (refine X_id ?_; first | (refine X_drawS (id := 1) [0, 1, 2, 3, 4, 5, 6, 7, 8, 9, 10, 11, 12, 13, 14, 15] (fun | 10 => .m | _ => .s) 8 (by repeat' (first | exact Split.nil | apply Split.blk)) mixed (by decide +kernel) ?_; intro G hFG hM thaw; show XD _ _ _ _ _ _ [0, 1, 2, 3, 4, 5, 6, 7, 8, 9, 10, 11, 12, 13, 14, 15] _ _ _) | refine X_seq ?_ | (refine X_regionN (by repeat' (first | exact .nil | apply NL.cons)) ?_) | refine X_skip ?_ | refine X_ret ?_ | refine X_cond_f rfl ?_) | (refine Y_id ?_; first | refine Y_then ?_ | refine Y_m ?_))
  all_goals first
    | exact Y_fn2 rfl rfl rfl rfl
    | (exfalso; omega)
    | skip
  
/-! alike -/
abbrev C0 (d : Pl.Cd) : List Int := (Cof.get d.ps ((0 : Nat) : Int)).xs
def Alike (d : Pl.Cd) (s t : List (List Int)) : Prop := s.length = t.length ∧ ∀ k : Int, 0 ≤ k → k / 16 ∈ C0 d → Cof.get s k = Cof.get t k
theorem k2_col (d : Pl.Cd) (pa : Int) (h0 : 0 ≤ pa) : k2 d pa / 16 = pa / 256 % d.co := by
  unfold k2 setF; omega
theorem Alike.own {d : Pl.Cd} {s t : List (List Int)} {pa : Int} (h : Alike d s t) (hm : Pl.MachP d) (hl : s.length = (d.co * 16).toNat) (h0 : 0 ≤ pa) (hin : pa / 256 % d.co ∈ C0 d) : Cof.get s (k2 d pa) = Cof.get t (k2 d pa) ∧ Alike d (put2 d s pa) (put2 d t pa) := by
  obtain ⟨b1, b2⟩ := k2_rng hm h0
  have he := h.2 (k2 d pa) b1 (by rw [k2_col d pa h0]; exact hin)
  refine ⟨he, by unfold put2; rw [List.length_set, List.length_set]; exact h.1, fun k hk hkc => ?_⟩
  unfold put2
  rw [getI_set b1 (by rw [hl]; exact b2) hk, getI_set b1 (by rw [← h.1, hl]; exact b2) hk, he]
  split
  · rfl
  · exact h.2 k hk hkc
theorem Alike.other {d : Pl.Cd} {s t : List (List Int)} {pa : Int} (h : Alike d s t) (hm : Pl.MachP d) (hl : t.length = (d.co * 16).toNat) (h0 : 0 ≤ pa) (hin : pa / 256 % d.co ∉ C0 d) : Alike d s (put2 d t pa) := by
  obtain ⟨b1, b2⟩ := k2_rng hm h0
  refine ⟨by unfold put2; rw [List.length_set]; exact h.1, fun k hk hkc => ?_⟩
  unfold put2
  rw [getI_set b1 (by rw [hl]; exact b2) hk, if_neg (fun e => hin (by rw [← k2_col d pa h0, e]; exact hkc))]
  exact h.2 k hk hkc
theorem apart {d : Pl.Cd} (h : Pl.MayF d) {p : Nat} (hp0 : 0 < p) (hp : p < d.ps.length) {x : Int} (hx : x ∈ (Cof.get d.ps (p : Int)).xs) : x ∉ C0 d := by
  obtain ⟨i, hi, e⟩ := List.getElem_of_mem hx
  have := ((h.part p hp).1.2 i hi).2.2.2 0 hp0
  rw [get_getElem hi, e] at this
  exact this
end Go.Proofs.Ythmllhihldbfoaa
