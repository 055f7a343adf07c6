/- The frames of some colours; a place among them. -/
import Derived.Test.YthmllhihldbfoaaCq
set_option linter.unusedVariables false
namespace Go.Proofs.Ythmllhihldbfoaa
open Go.RowKit Go.Cof

def bsF (cs : List Int) (i : Nat) : List Value := (List.range 16).map fun (c : Nat) => .bool (decide ((c : Int) ∈ cs.take i))
theorem bsF_len (cs : List Int) (i : Nat) : (bsF cs i).length = 16 := by unfold bsF; rw [List.length_map, List.length_range]
theorem bsF_at (cs : List Int) (i : Nat) {c : Nat} (h : c < 16) : (bsF cs i)[c]? = some (.bool (decide ((c : Int) ∈ cs.take i))) := by
  unfold bsF
  rw [List.getElem?_map, List.getElem?_range h]; rfl
theorem bsF_zero (cs : List Int) : bsF cs 0 = List.replicate 16 (.bool false) := by
  unfold bsF
  refine List.ext_getElem? fun c => ?_
  rw [List.getElem?_map, List.getElem?_replicate]
  by_cases h : c < 16
  · rw [List.getElem?_range h, if_pos h]; simp
  · rw [List.getElem?_eq_none (by rw [List.length_range]; omega), if_neg h]; rfl
theorem bsF_set {cs : List Int} {i : Nat} (hi : i < cs.length) {c : Nat} (hc : (c : Int) = Cof.get cs (i : Int)) (h16 : c < 16) : (bsF cs i).set c (.bool true) = bsF cs (i + 1) := by
  refine List.ext_getElem? fun j => ?_
  rw [List.getElem?_set]
  by_cases h : j < 16
  · rw [bsF_at cs (i + 1) h]
    by_cases e : c = j
    · subst e
      rw [if_pos rfl, if_pos (by rw [bsF_len]; exact h16), decide_eq_true (by rw [take_snoc' _ _ hi, hc]; exact List.mem_append_right _ (List.mem_singleton.2 rfl))]
    · rw [if_neg e, bsF_at cs i h]
      congr 2
      rw [take_snoc' _ _ hi]
      refine decide_eq_decide.2 ⟨fun h => List.mem_append_left _ h, fun h => ?_⟩
      rcases List.mem_append.1 h with h | h
      · exact h
      · have := List.mem_singleton.1 h
        rw [← hc] at this
        exact absurd (by omega : c = j) e
  · rw [List.getElem?_eq_none (by rw [bsF_len]; omega)]
    split
    · rename_i e; omega
    · rw [List.getElem?_eq_none (by rw [bsF_len]; omega)]
def frTo (co : Int) (cs : List Int) : Nat → List Int
  | 0 => []
  | f + 1 => if (f : Int) % co ∈ cs then frTo co cs f ++ [(f : Int)] else frTo co cs f
theorem frTo_mem {co : Int} {cs : List Int} : ∀ {n : Nat} {f : Int}, f ∈ frTo co cs n ↔ 0 ≤ f ∧ f < n ∧ f % co ∈ cs
  | 0, f => ⟨fun h => (by cases h), fun h => (by omega)⟩
  | n + 1, f => by
    rw [frTo]
    split
    · rename_i hm
      rw [List.mem_append, frTo_mem, List.mem_singleton]
      constructor
      · rintro (h | rfl)
        · exact ⟨h.1, by omega, h.2.2⟩
        · exact ⟨by omega, by omega, hm⟩
      · intro h
        by_cases e : f = (n : Int)
        · exact .inr e
        · exact .inl ⟨h.1, by omega, h.2.2⟩
    · rename_i hm
      rw [frTo_mem]
      refine ⟨fun h => ⟨h.1, by omega, h.2.2⟩, fun h => ⟨h.1, ?_, h.2.2⟩⟩
      have : f ≠ (n : Int) := fun e => hm (e ▸ h.2.2)
      omega
theorem frTo_len (co : Int) (cs : List Int) : ∀ n : Nat, (frTo co cs n).length ≤ n
  | 0 => Nat.le_refl _
  | n + 1 => by
    have := frTo_len co cs n
    rw [frTo]
    split
    · rw [List.length_append, List.length_singleton]; omega
    · omega
set_option maxRecDepth 100000 in
set_option maxHeartbeats 8000000 in
theorem frames_spec (fr : Nat) (co : Int) (A : Option Addr) (m c : Nat) (cs : List Int) (h1 : 1 ≤ fr) (h2 : fr ≤ 4096) (h3 : 1 ≤ co) (h4 : co ≤ 16) (hm : m ≤ 9223372036854775807)
    (hr : ∀ i : Nat, i < m → 0 ≤ Cof.get cs (i : Int) ∧ Cof.get cs (i : Int) < co) (ha : ∀ i : Nat, i + 1 < m → Cof.get cs (i : Int) < Cof.get cs ((i + 1 : Nat) : Int)) :
    Ctr Try.prog 29 [iV fr, iV co, .slice A m c] (fun h => rdS encN h A m cs) [] (fun v L => ∃ B c2, v = .tuple #[.slice B (frTo co cs fr).length c2, iV 0] ∧ L = [own encN B (frTo co cs fr).length c2 (frTo co cs fr)]) := by
  have hw := cowithin_spec fr 1 4096
  rw [decide_eq_true (show 1 ≤ (fr : Int) ∧ (fr : Int) ≤ 4096 by omega)] at hw
  have hcm := comay_spec co
  rw [decide_eq_true (show 1 ≤ co ∧ co ≤ 16 by omega)] at hcm
  refine Ctr.intro Try.func29 rfl rfl (by decide +kernel) fun F hpre => ?_
  have r1 : rdS encN F.heap A m cs := hpre
  have hlen := r1.1
  repeat' (first | (refine XL_id ?_; first | refine XL_nil ?_ | refine XL_guard_yes rfl rfl rfl ?_ | (refine XG_alloc ?_; refine XL_alloc tt_ok rfl rfl (fun _ => rfl) (fun ba => ?_)) | (refine XG_call ?_; first | (refine XL_op tt_ok rfl rfl ?_) | refine XL_fn hw rfl rfl (fun _ _ _ => trivial) ?_ | refine XL_fn hcm rfl rfl (fun _ _ _ => trivial) ?_) | (refine XL_op tt_ok rfl rfl ?_)) | (refine X_id ?_; first | refine X_block (id := 0) (hold ?_) | refine X_seq ?_ | (refine X_regionN (by repeat' (first | exact .nil | apply NL.cons)) ?_) | refine X_skip ?_ | refine X_cond_f rfl ?_) | (refine Y_id ?_; refine Y_then ?_))
  all_goals first
    | (exfalso; omega)
    | skip
  intro _
  refine X_loopD2 [0, 1, 8, 22, 23] (fun (i : Nat) (la : Int) => [(24, .int .i64 i), (9, .int .i64 la)]) (fun i _ => [blk ba (bsF cs i) 114]) (fun i la => i ≤ m ∧ -1 ≤ la ∧ la < 16 ∧ (i < m → la < Cof.get cs (i : Int))) (fun i _ => m - i) 0 (-1) rfl ⟨Nat.zero_le _, by omega, by omega, fun h => by have := (hr 0 h).1; omega⟩ (by (repeat' (first | exact trivial | refine And.intro rfl ?_)); done) (fun h hs => by rw [bsF_zero]; exact hs) ?_
  intro i la hi
  obtain ⟨hi, hla1, hla2, hla⟩ := hi
  by_cases hlt : i < m
  · obtain ⟨q1, q2⟩ := hr i hlt
    have q3 := hla hlt
    have hlast : i + 1 < m → Cof.get cs (i : Int) < Cof.get cs ((i + 1 : Nat) : Int) := ha i
    have hset := bsF_set (cs := cs) (i := i) (by omega) (c := (Cof.get cs (i : Int)).toNat) (by omega) (by omega)
    repeat' (first | (refine XL_id ?_; first | refine XL_nil ?_ | refine XL_guard_yes rfl rfl rfl ?_ | (refine XG_load ?_; refine XL_el tt_ok rfl (by assumption) rfl (by omega) (by omega) rfl rfl rfl rfl ?_) | (refine XG_idx ?_; first | refine XL_idx tt_ok rfl rfl rfl rfl rfl (by assumption) (by omega) (by omega) rfl ?_ | refine XL_idxal tt_ok rfl rfl rfl rfl rfl (by omega) (by omega) rfl ?_) | (refine XG_store ?_; (refine XL_storeI tt_ok 0 rfl rfl rfl rfl rfl rfl rfl (by rw [bsF_len]; omega) ?_)) | (refine XL_op tt_ok rfl rfl ?_; try (first | refine XL_int (wrap_i64 (by omega) (by omega)) ?_ | refine XL_dec_t (by omega) ?_ | refine XL_dec_f (by omega) ?_))) | (refine X_id ?_; first | refine X_seq ?_ | (refine X_regionN (by repeat' (first | exact .nil | apply NL.cons)) ?_) | refine X_skip ?_ | refine X_block ?_ | refine X_cond_t rfl ?_ | refine X_cond_f rfl ?_) | (refine Y_id ?_; first | refine Y_then ?_ | refine Y_block_normal ?_))
    all_goals first
      | exact Y_again (i + 1, Cof.get cs (i : Int)) fun _ _ hf hs => ⟨⟨hlt, by show -1 ≤ Cof.get cs (i : Int); omega, by show Cof.get cs (i : Int) < 16; omega, hlast⟩, by show m - (i + 1) < m - i; omega, hf.sub (by (repeat' (first | exact trivial | refine And.intro rfl ?_)); done), hs.imp fun g hg => by (show stars [blk ba (bsF cs (i + 1)) 114] g; rw [← hset, show (Cof.get cs (i : Int)).toNat = 0 + (Cof.get cs (i : Int)).toNat * 1 by omega]; exact hg)⟩
      | (exfalso; omega)
      | skip
    
  · obtain rfl : i = m := by omega
    have htk : cs.take i = cs := by rw [hlen]; exact List.take_length
    refine X_mem (fun _ hs => stars_new (own_nil encN _) hs) ?_
    repeat' (first | (refine XL_id ?_; first | refine XL_nil ?_ | (refine XL_op tt_ok rfl rfl ?_; try (refine XL_dec_f (by omega) ?_))) | (refine X_id ?_; first | refine X_block (id := 2) (hold ?_) | refine X_seq ?_ | (refine X_regionN (by repeat' (first | exact .nil | apply NL.cons)) ?_) | refine X_exit ?_ | refine X_cond_f rfl ?_) | (refine Y_id ?_; first | refine Y_then ?_ | refine Y_then_exit ?_ | refine Y_block_hit ?_))
    all_goals first
      | (exfalso; omega)
      | skip
    intro _
    refine X_loopD4 [1, 8, 40] (fun (f : Nat) (B : Option Addr) (k q : Nat) => [(41, .int .i64 f), (12, .slice B k q)]) (fun f B k q => [own encN B k q (frTo co cs f), blk ba (bsF cs i) 114]) (fun f _ k _ => f ≤ fr ∧ k = (frTo co cs f).length) (fun f _ _ _ => fr - f) 0 none 0 0 rfl ⟨Nat.zero_le _, rfl⟩ (by (repeat' (first | exact trivial | refine And.intro rfl ?_)); done) (fun h hs => hs) ?_
    intro f B k q hf
    obtain ⟨hf, hk⟩ := hf
    have hfl := frTo_len co cs f
    by_cases hlf : f < fr
    · have e1 : (f : Int).tmod co = f % co := Int.tmod_eq_emod_of_nonneg (by omega)
      have o1 := Int.emod_nonneg (f : Int) (show co ≠ 0 by omega)
      have o2 := Int.emod_lt_of_pos (f : Int) (show 0 < co by omega)
      obtain ⟨O, hO⟩ : ∃ O, (f : Int) % co = O := ⟨_, rfl⟩
      rw [hO] at e1 o1 o2
      have hat := bsF_at cs i (c := O.toNat) (by omega)
      rw [show ((O.toNat : Nat) : Int) = O by omega, htk] at hat
      by_cases hin : O ∈ cs
      · rw [decide_eq_true hin] at hat
        have hft : frTo co cs (f + 1) = frTo co cs f ++ [(f : Int)] := by rw [frTo, if_pos (by rw [hO]; exact hin)]
        repeat' (first | (refine XL_id ?_; first | refine XL_nil ?_ | (refine XG_load ?_; (refine XL_loadI tt_ok 1 rfl rfl rfl rfl rfl (by rw [show 0 + O.toNat * 1 = O.toNat by omega]; exact hat) rfl ?_)) | (refine XG_idx ?_; refine XL_idxal tt_ok rfl rfl rfl rfl rfl (by omega) (by omega) rfl ?_) | (refine XG_call ?_; (refine XL_app1 (E := encN) tt_ok 1 0 (f : Int) rfl rfl rfl rfl rfl rfl rfl rfl rfl rfl rfl (by show (_ : Nat) * 8 ≤ _; omega) (by omega) (fun _ _ => rfl) (fun A3 c3 => ?_))) | (refine XG_lit ?_; (refine XL_lit tt_ok rfl rfl rfl rfl rfl rfl rfl rfl rfl (fun _ => rfl) (fun b => ?_); refine XL_nB (by repeat' (first | exact .nil | apply NL.cons)) ?_)) | (refine XL_op tt_ok (opV_rem rfl rfl (by omega)) rfl ?_; refine XL_int e1 ?_) | (refine XL_op tt_ok rfl rfl ?_; try (first | refine XL_int (wrap_i64 (by omega) (by omega)) ?_ | refine XL_dec_t (by omega) ?_))) | (refine X_id ?_; first | refine X_seq ?_ | (refine X_regionN (by repeat' (first | exact .nil | apply NL.cons)) ?_) | refine X_skip ?_ | refine X_block ?_ | refine X_cond_t rfl ?_) | (refine Y_id ?_; first | refine Y_then ?_ | refine Y_block_normal ?_))
        all_goals first
          | exact Y_again (f + 1, A3, k + 1, c3) fun _ _ hf hs => ⟨⟨hlf, by show k + 1 = (frTo co cs (f + 1)).length; rw [hft, List.length_append, hk]; rfl⟩, by show fr - (f + 1) < fr - f; omega, hf.sub (by (repeat' (first | exact trivial | refine And.intro rfl ?_)); done), hs.imp fun g hg => by (show stars [own encN A3 (k + 1) c3 (frTo co cs (f + 1)), blk ba (bsF cs i) 114] g; rw [hft]; exact stars_only [1, 1] rfl g hg)⟩
          | (exfalso; omega)
          | skip
        
      · rw [decide_eq_false hin] at hat
        have hft : frTo co cs (f + 1) = frTo co cs f := by rw [frTo, if_neg (by rw [hO]; exact hin)]
        repeat' (first | (refine XL_id ?_; first | refine XL_nil ?_ | (refine XG_load ?_; (refine XL_loadI tt_ok 1 rfl rfl rfl rfl rfl (by rw [show 0 + O.toNat * 1 = O.toNat by omega]; exact hat) rfl ?_)) | (refine XG_idx ?_; refine XL_idxal tt_ok rfl rfl rfl rfl rfl (by omega) (by omega) rfl ?_) | (refine XL_op tt_ok (opV_rem rfl rfl (by omega)) rfl ?_; refine XL_int e1 ?_) | (refine XL_op tt_ok rfl rfl ?_; try (first | refine XL_int (wrap_i64 (by omega) (by omega)) ?_ | refine XL_dec_t (by omega) ?_))) | (refine X_id ?_; first | refine X_seq ?_ | (refine X_regionN (by repeat' (first | exact .nil | apply NL.cons)) ?_) | refine X_skip ?_ | refine X_block ?_ | refine X_cond_t rfl ?_ | refine X_cond_f rfl ?_) | (refine Y_id ?_; first | refine Y_then ?_ | refine Y_block_normal ?_))
        all_goals first
          | exact Y_again (f + 1, B, k, q) fun _ _ hf hs => ⟨⟨hlf, by show k = (frTo co cs (f + 1)).length; rw [hft]; exact hk⟩, by show fr - (f + 1) < fr - f; omega, hf.sub (by (repeat' (first | exact trivial | refine And.intro rfl ?_)); done), hs.imp fun g hg => by (show stars [own encN B k q (frTo co cs (f + 1)), blk ba (bsF cs i) 114] g; rw [hft]; exact hg)⟩
          | (exfalso; omega)
          | skip
        
    · obtain rfl : f = fr := by omega
      subst hk
      repeat' (first | (refine XL_id ?_; first | refine XL_nil ?_ | (refine XL_op tt_ok rfl rfl ?_; try (refine XL_dec_f (by omega) ?_))) | (refine X_id ?_; first | refine X_seq ?_ | (refine X_regionN (by repeat' (first | exact .nil | apply NL.cons)) ?_) | refine X_ret ?_ | refine X_exit ?_ | refine X_cond_f rfl ?_) | (refine Y_id ?_; first | refine Y_then ?_ | refine Y_then_exit ?_ | refine Y_block_hit ?_))
      all_goals first
        | exact Y_ret2 rfl rfl rfl (stars_only [0] rfl) ⟨_, _, rfl, rfl⟩
        | (exfalso; omega)
        | skip
      
end Go.Proofs.Ythmllhihldbfoaa
