/- The document's answer: Lists. -/
import Derived.Test.YtkcpjgdmfjhlkaaRb
set_option linter.unusedVariables false
namespace Go.Proofs.Ytkcpjgdmfjhlkaa
open Go.RowKit Go.Cof

/-- No greatest block lies across a place. -/
def Cut (op : List Bool) (x : Nat) : Prop := ∀ b j, j ≤ 6 → Mx op b j → b + 2 ^ j ≤ x ∨ x ≤ b
theorem cut_next {op : List Bool} {x : Nat} (h : Cut op x) (hx : ¬ O op x) : Cut op (x + 1) := fun b j hj hm => by
  have hp := two_pos j
  rcases h b j hj hm with h1 | h1
  · exact .inl (by omega)
  · by_cases e : b = x
    · subst e; exact absurd (hm.1.2 b (Nat.le_refl _) (by omega)) hx
    · exact .inr (by omega)
theorem cut_blk {op : List Bool} {x k : Nat} (h : Cut op x) (hk : k ≤ 6) (hm : Mx op x k) : Cut op (x + 2 ^ k) := fun b j hj hb => by
  have hp := two_pos j
  have hpk := two_pos k
  rcases h b j hj hb with h1 | h1
  · exact .inl (by omega)
  · by_cases e : x + 2 ^ k ≤ b
    · exact .inr e
    · obtain ⟨rfl, rfl⟩ := hm.same hb hj hk (i := b) (Nat.le_refl _) (by omega) h1 (by omega)
      exact .inl (Nat.le_refl _)
theorem cut_mx {op : List Bool} {x k : Nat} (h : Cut op x) (hk : k ≤ 6) (hf : Fb op x k) (he : k = 6 ∨ ¬ (2 ^ (k + 1) ∣ x ∧ allR op x (2 ^ (k + 1)) = true)) : Mx op x k := by
  have hp := two_pos k
  obtain ⟨b, m, h1, h2, h3, h4, h5⟩ := Mx.cov hk hf
  have hbx : b = x := by
    rcases h b m h2 h3 with h6 | h6 <;> omega
  subst hbx
  by_cases e : k = m
  · subst e; exact h3
  · exfalso
    have hle : 2 ^ (k + 1) ≤ 2 ^ m := Nat.pow_le_pow_right (by decide) (by omega)
    rcases he with h6 | h6
    · omega
    · exact h6 ⟨Nat.dvd_trans (dvd_le (by omega)) h3.1.1, allR_iff.2 fun i h7 h8 => h3.1.2 i h7 (by omega)⟩
theorem shl_2 {o P : Nat} (h : o ≤ 5) (hP : 2 ^ (o + 1) = P) : IntKind.i64.wrap (2 * 2 ^ min ((o : Nat) : Int).toNat IntKind.i64.bits) = (P : Int) := by
  subst hP
  match o, h with
  | 0, _ => decide
  | 1, _ => decide
  | 2, _ => decide
  | 3, _ => decide
  | 4, _ => decide
  | 5, _ => decide
theorem map_set' {l : List (In Int)} {k : Nat} {q : In Int} : (l.set k q).map In.xs = (l.map In.xs).set k q.xs := List.map_set
set_option maxHeartbeats 8000000 in
theorem rlists_spec (r ob tb : Nat) (op : List Bool) (fs : List (List Int)) (hn : op.length ≤ 4096) (hfs : Pl fs (Mx op)) : Ctr Try.prog 30 [ptr r] (fun h => rbB r ob tb op.length h ∧ rdS encB h (some ⟨ob, 0, none⟩) op.length op) [] (fun v L => ∃ q : In (In Int), q.xs.map In.xs = fs ∧ v = slV q ∧ L = [isLl q]) := by
  refine Ctr.intro Try.func30 rfl rfl (by decide +kernel) fun F hpre => ?_
  have hbk : rbB r ob tb op.length F.heap := hpre.1
  have r1 : rdS encB F.heap (some ⟨ob, 0, none⟩) op.length op := hpre.2
  repeat' (first | (refine XL_id ?_; first | refine XL_nil ?_ | (refine XG_make ?_; (refine XL_make (encIn Int) q0 tt_ok rfl rfl rfl rfl rfl rfl rfl rfl (by omega) (by omega) (by show (24 : Int) * _ ≤ _; omega) (by omega) (fun _ => rfl) (fun g => ?_))) | (refine XL_op tt_ok rfl rfl ?_)) | (refine X_id ?_; first | refine X_block (id := 0) (hold ?_) | refine X_seq ?_ | (refine X_regionN (by repeat' (first | exact .nil | apply NL.cons)) ?_)) | (refine Y_id ?_; refine Y_then ?_))
  intro _
  refine X_loopD2 [0, 3] (fun (x : Nat) (l : List (In Int)) => [(4, .int .i64 x)]) (fun x l => [own (encIn Int) (some ⟨g, 0, none⟩) 7 7 l, allI encN l]) (fun x l => (l.length = 7 ∧ ∀ q ∈ l, q.m ≤ 4096 ∧ q.m = q.xs.length) ∧ Pl (l.map In.xs) (fun a j => Mx op a j ∧ a < x) ∧ sumF (l.map In.xs) 7 ≤ x ∧ Cut op x ∧ x ≤ op.length) (fun x _ => op.length - x) 0 (List.replicate 7 q0) rfl
    ⟨⟨List.length_replicate, fun q hq => by obtain rfl := (List.mem_replicate.1 hq).2; exact ⟨Nat.zero_le _, rfl⟩⟩, by rw [List.map_replicate]; exact pl_nil, by decide, fun b j _ _ => .inr (Nat.zero_le _), Nat.zero_le _⟩ (by (repeat' (first | exact trivial | refine And.intro rfl ?_)); done) (fun h hs => stars_swap (stars_new (all0 7 _) hs)) ?_
  intro x l hi
  obtain ⟨⟨hl7, hlm⟩, hpl, hsum, hcut, hxn⟩ := hi
  by_cases hlt : x < op.length
  · cases hb : Cof.get op (x : Int) with
    | false =>
      have hno : ¬ O op x := fun h => by have h1 : Cof.get op (x : Int) = true := h; rw [hb] at h1; cases h1
      have hpl2 : Pl (l.map In.xs) (fun a j => Mx op a j ∧ a < x + 1) := hpl.iff fun a j hj => ⟨fun h => ⟨h.1, by have := h.2; omega⟩, fun h => ⟨h.1, by
        have h2 : a < x + 1 := h.2
        by_cases e : a = x
        · subst e; exact absurd (h.1.1.2 a (Nat.le_refl _) (by have := two_pos j; omega)) hno
        · omega⟩⟩
      have hall : (l.length = 7 ∧ ∀ q ∈ l, q.m ≤ 4096 ∧ q.m = q.xs.length) ∧ Pl (l.map In.xs) (fun a j => Mx op a j ∧ a < x + 1) ∧ sumF (l.map In.xs) 7 ≤ x + 1 ∧ Cut op (x + 1) ∧ x + 1 ≤ op.length := ⟨⟨hl7, hlm⟩, hpl2, by omega, cut_next hcut hno, hlt⟩
      repeat' (first | (refine XL_id ?_; first | refine XL_head (show Value.bool (Cof.get op (x : Int)) = .bool false from congrArg _ hb) ?_ | refine XL_nil ?_ | (refine XG_load ?_; first | refine XL_loadF tt_ok rfl (by assumption) rfl rfl rfl rfl ?_ | refine XL_el tt_ok rfl (by assumption) rfl (by omega) (by omega) rfl rfl rfl rfl ?_) | (refine XG_idx ?_; refine XL_idx tt_ok rfl rfl rfl rfl rfl (by assumption) (by omega) (by omega) rfl ?_) | (refine XL_op tt_ok rfl rfl ?_; try (first | refine XL_int (wrap_i64 (by omega) (by omega)) ?_ | refine XL_dec_t (by omega) ?_))) | (refine X_id ?_; first | refine X_seq ?_ | (refine X_regionN (by repeat' (first | exact .nil | apply NL.cons)) ?_) | refine X_skip ?_ | refine X_exit ?_ | refine X_block ?_ | refine X_cond_t rfl ?_) | (refine Y_id ?_; first | refine Y_then ?_ | refine Y_then_exit ?_ | refine Y_block_hit ?_))
      all_goals first
        | exact Y_again (x + 1, l) fun _ _ hf hs => ⟨hall, by show op.length - (x + 1) < op.length - x; omega, hf.sub (by (repeat' (first | exact trivial | refine And.intro rfl ?_)); done), hs⟩
        | (exfalso; omega)
        | skip
      
    | true =>
      have hO : O op x := hb
      repeat' (first | (refine XL_id ?_; first | refine XL_head (show Value.bool (Cof.get op (x : Int)) = .bool true from congrArg _ hb) ?_ | refine XL_nil ?_ | (refine XG_load ?_; first | refine XL_loadF tt_ok rfl (by assumption) rfl rfl rfl rfl ?_ | refine XL_el tt_ok rfl (by assumption) rfl (by omega) (by omega) rfl rfl rfl rfl ?_) | (refine XG_idx ?_; refine XL_idx tt_ok rfl rfl rfl rfl rfl (by assumption) (by omega) (by omega) rfl ?_) | (refine XL_op tt_ok rfl rfl ?_; try (refine XL_dec_t (by omega) ?_))) | (refine X_id ?_; first | refine X_block (id := 2) (hold ?_) | refine X_seq ?_ | (refine X_regionN (by repeat' (first | exact .nil | apply NL.cons)) ?_) | refine X_skip ?_ | refine X_block ?_ | refine X_cond_t rfl ?_ | refine X_cond_f rfl ?_) | (refine Y_id ?_; refine Y_then ?_))
      intro _
      refine X_loopD [0, 3, 4] (fun (k : Nat) => [(5, .int .i64 k)]) (fun _ => [own (encIn Int) (some ⟨g, 0, none⟩) 7 7 l, allI encN l]) (fun k => k ≤ 6 ∧ Fb op x k) (fun k => 6 - k) 0 rfl ⟨Nat.zero_le _, ⟨by rw [Nat.pow_zero]; exact Nat.one_dvd _, fun i h1 h2 => by rw [Nat.pow_zero] at h2; rw [show i = x by omega]; exact hO⟩⟩ (by (repeat' (first | exact trivial | refine And.intro rfl ?_)); done) (fun h hs => hs) ?_
      intro k hk
      obtain ⟨hk6, hkf⟩ := hk
      by_cases hgo : k < 6 ∧ 2 ^ (k + 1) ∣ x ∧ allR op x (2 ^ (k + 1)) = true
      · obtain ⟨hk5, hdv, hal⟩ := hgo
        have hop := ropen_spec r ob tb op hn x (k + 1) (by omega) (by omega)
        rw [hal] at hop
        obtain ⟨P, hP⟩ : ∃ P, 2 ^ (k + 1) = P := ⟨_, rfl⟩
        have hP0 := two_pos (k + 1)
        have hrem : (x : Int).tmod (P : Int) = 0 := by rw [← hP]; exact Int.tmod_eq_zero_of_dvd (Int.natCast_dvd_natCast.2 hdv)
        repeat' (first | (refine XL_id ?_; first | refine XL_nil ?_ | refine XL_guard_yes rfl rfl rfl ?_ | (refine XG_call ?_; refine XL_fn hop rfl rfl (fun g hg hL => ⟨blk_le hbk hg, r1.le hg⟩) ?_) | (refine XL_op tt_ok (opV_shl rfl rfl (by omega)) rfl ?_; refine XL_int (shl_2 (by omega) hP) ?_) | (refine XL_op tt_ok (opV_rem rfl rfl (by omega)) rfl ?_; refine XL_int hrem ?_) | (refine XL_op tt_ok rfl rfl ?_; try (first | refine XL_int (wrap_i64 (by omega) (by omega)) ?_ | refine XL_dec_t (by omega) ?_))) | (refine X_id ?_; first | refine X_seq ?_ | (refine X_regionN (by repeat' (first | exact .nil | apply NL.cons)) ?_) | refine X_skip ?_ | refine X_block ?_ | refine X_cond_t rfl ?_) | (refine Y_id ?_; first | refine Y_then ?_ | refine Y_block_normal ?_))
        all_goals first
          | exact Y_again (k + 1) fun _ _ hf hs => ⟨⟨by omega, ⟨hdv, allR_iff.1 hal⟩⟩, by show 6 - (k + 1) < 6 - k; omega, hf.sub (by (repeat' (first | exact trivial | refine And.intro rfl ?_)); done), hs⟩
          | (exfalso; omega)
          | skip
        
      · have hmx := cut_mx hcut hk6 hkf (by
          by_cases e : k = 6
          · exact .inl e
          · exact .inr fun h => hgo ⟨by omega, h.1, h.2⟩)
        have hk7 : k < l.length := by omega
        obtain ⟨hqm, hqx⟩ := hlm _ (get_mem' (l := l) (i := (k : Int)) (by omega) (by omega))
        obtain ⟨P, hP⟩ : ∃ P, 2 ^ k = P := ⟨_, rfl⟩
        have hP0 := two_pos k
        have hP6 : P ≤ 64 := by rw [← hP]; exact Nat.pow_le_pow_right (n := 2) (by decide) hk6
        have hlen := hkf.len
        have hpl2 := grow_step hpl hk6 hmx
        have hlast : insS (x : Int) (Cof.get (l.map In.xs) (k : Int)) = Cof.get (l.map In.xs) (k : Int) ++ [(x : Int)] := ins_last fun w hw => by
          obtain ⟨a, e, ha⟩ := (hpl.mem k (by omega) w).1 hw
          have := ha.2
          omega
        have hsum2 := sum_ins hpl.len (k := k) (by omega) (v := (x : Int))
        rw [hlast, hP] at hsum2
        have hls := len_sum (fs := (l.map In.xs).set k (Cof.get (l.map In.xs) (k : Int) ++ [(x : Int)])) (k := k) (by omega)
        rw [get_set7 hpl.len (by omega), if_pos rfl, List.length_append, hsum2, List.length_singleton] at hls
        rw [get_map In.xs hk7] at hls hpl2 hsum2
        have hcb := cut_blk hcut hk6 hmx
        rw [hP] at hpl2 hcb hlen
        refine X_mem (fun _ hh => allI_own hk7 (stars_swap hh)) ?_
        have hset : ∀ A3 c3, ((l.set k ⟨A3, (Cof.get l (k : Int)).m + 1, c3, (Cof.get l (k : Int)).xs ++ [(x : Int)]⟩).length = 7 ∧ ∀ q ∈ l.set k ⟨A3, (Cof.get l (k : Int)).m + 1, c3, (Cof.get l (k : Int)).xs ++ [(x : Int)]⟩, q.m ≤ 4096 ∧ q.m = q.xs.length) ∧ Pl ((l.set k ⟨A3, (Cof.get l (k : Int)).m + 1, c3, (Cof.get l (k : Int)).xs ++ [(x : Int)]⟩).map In.xs) (fun a j => Mx op a j ∧ a < x + P) ∧ sumF ((l.set k ⟨A3, (Cof.get l (k : Int)).m + 1, c3, (Cof.get l (k : Int)).xs ++ [(x : Int)]⟩).map In.xs) 7 ≤ x + P ∧ Cut op (x + P) ∧ x + P ≤ op.length := fun A3 c3 => by
          refine ⟨⟨by rw [List.length_set]; exact hl7, fun q hq => ?_⟩, by rw [map_set']; exact hpl2, by rw [map_set', hsum2]; omega, hcb, hlen⟩
          rcases List.mem_or_eq_of_mem_set hq with hq | rfl
          · exact hlm q hq
          · exact ⟨by show _ + 1 ≤ 4096; omega, by show _ + 1 = _; rw [List.length_append, ← hqx]; rfl⟩
        have hway : k = 6 ∨ (k < 6 ∧ ¬ 2 ^ (k + 1) ∣ x) ∨ (k < 6 ∧ 2 ^ (k + 1) ∣ x ∧ allR op x (2 ^ (k + 1)) = false) := by
          by_cases e : k = 6
          · exact .inl e
          · by_cases d : 2 ^ (k + 1) ∣ x
            · refine .inr (.inr ⟨by omega, d, ?_⟩)
              cases ea : allR op x (2 ^ (k + 1)) with
              | false => rfl
              | true => exact absurd ⟨by omega, d, ea⟩ hgo
            · exact .inr (.inl ⟨by omega, d⟩)
        obtain ⟨P2, hP2⟩ : ∃ P2, 2 ^ (k + 1) = P2 := ⟨_, rfl⟩
        have hP20 := two_pos (k + 1)
        rcases hway with rfl | ⟨hk5, hnd⟩ | ⟨hk5, hdv, hal⟩
        · repeat' (first | (refine XL_id ?_; first | refine XL_nil ?_ | refine XL_guard_no rfl rfl rfl rfl rfl ?_ | (refine XG_load ?_; refine XL_elo tt_ok 2 rfl rfl rfl (by omega) (by omega) rfl rfl rfl rfl ?_) | (refine XG_idx ?_; first | refine XL_idxo tt_ok 2 rfl rfl rfl rfl rfl rfl (by omega) (by omega) rfl ?_ | refine XL_idxo tt_ok 3 rfl rfl rfl rfl rfl rfl (by omega) (by omega) rfl ?_) | (refine XG_call ?_; (refine XL_app1 (E := encN) tt_ok 1 0 (x : Int) rfl rfl rfl rfl rfl rfl rfl rfl rfl rfl rfl (by show (_ : Nat) * 8 ≤ _; omega) (by omega) (fun _ _ => rfl) (fun A3 c3 => ?_))) | (refine XG_store ?_; refine XL_put (i := 6) (f := 0) (x' := (⟨A3, (Cof.get l (6 : Int)).m + 1, c3, (Cof.get l (6 : Int)).xs ++ [(x : Int)]⟩ : In Int)) tt_ok 3 rfl rfl (place_0 rfl) rfl rfl rfl rfl (by omega) rfl rfl rfl ?_) | (refine XG_lit ?_; (refine XL_lit tt_ok rfl rfl rfl rfl rfl rfl rfl rfl rfl (fun _ => rfl) (fun b => ?_); refine XL_nB (by repeat' (first | exact .nil | apply NL.cons)) ?_)) | (refine XL_op tt_ok (opV_shl rfl rfl (by omega)) rfl ?_; refine XL_int (shl_o hk6 hP) ?_) | (refine XL_op tt_ok rfl rfl ?_; try (first | refine XL_int (wrap_i64 (by omega) (by omega)) ?_ | refine XL_dec_f (by omega) ?_))) | (refine X_id ?_; first | refine X_seq ?_ | (refine X_regionN (by repeat' (first | exact .nil | apply NL.cons)) ?_) | refine X_exit ?_ | refine X_cond_f rfl ?_) | (refine Y_id ?_; first | refine Y_then ?_ | refine Y_then_exit ?_ | refine Y_block_hit ?_ | refine Y_block_normal ?_))
          all_goals first
            | exact Y_again (x + P, l.set 6 ⟨A3, (Cof.get l (6 : Int)).m + 1, c3, (Cof.get l (6 : Int)).xs ++ [(x : Int)]⟩) fun _ _ hf hs => ⟨hset A3 c3, by show op.length - (x + P) < op.length - x; omega, hf.sub (by (repeat' (first | exact trivial | refine And.intro rfl ?_)); done), hs.imp fun h hs => stars_swap (allI_put hk7 ⟨A3, (Cof.get l (6 : Int)).m + 1, c3, (Cof.get l (6 : Int)).xs ++ [(x : Int)]⟩ (stars_only [1, 1, 1] rfl h hs))⟩
            | (exfalso; omega)
            | skip
          
        · obtain ⟨R, hR⟩ : ∃ R, (x : Int).tmod (P2 : Int) = R := ⟨_, rfl⟩
          have hR0 : R ≠ 0 := fun h => hnd (by rw [hP2]; exact Int.natCast_dvd_natCast.1 (Int.dvd_of_tmod_eq_zero (by rw [hR, h])))
          repeat' (first | (refine XL_id ?_; first | refine XL_nil ?_ | refine XL_guard_yes rfl rfl rfl ?_ | refine XL_guard_no rfl rfl rfl rfl rfl ?_ | (refine XG_load ?_; refine XL_elo tt_ok 2 rfl rfl rfl (by omega) (by omega) rfl rfl rfl rfl ?_) | (refine XG_idx ?_; first | refine XL_idxo tt_ok 2 rfl rfl rfl rfl rfl rfl (by omega) (by omega) rfl ?_ | refine XL_idxo tt_ok 3 rfl rfl rfl rfl rfl rfl (by omega) (by omega) rfl ?_) | (refine XG_call ?_; (refine XL_app1 (E := encN) tt_ok 1 0 (x : Int) rfl rfl rfl rfl rfl rfl rfl rfl rfl rfl rfl (by show (_ : Nat) * 8 ≤ _; omega) (by omega) (fun _ _ => rfl) (fun A3 c3 => ?_))) | (refine XG_store ?_; refine XL_put (i := k) (f := 0) (x' := (⟨A3, (Cof.get l (k : Int)).m + 1, c3, (Cof.get l (k : Int)).xs ++ [(x : Int)]⟩ : In Int)) tt_ok 3 rfl rfl (place_0 rfl) rfl rfl rfl rfl (by omega) rfl rfl rfl ?_) | (refine XG_lit ?_; (refine XL_lit tt_ok rfl rfl rfl rfl rfl rfl rfl rfl rfl (fun _ => rfl) (fun b => ?_); refine XL_nB (by repeat' (first | exact .nil | apply NL.cons)) ?_)) | (refine XL_op tt_ok (opV_shl rfl rfl (by omega)) rfl ?_; refine XL_int (shl_2 (by omega) hP2) ?_) | (refine XL_op tt_ok (opV_rem rfl rfl (by omega)) rfl ?_; refine XL_int hR ?_) | (refine XL_op tt_ok (opV_shl rfl rfl (by omega)) rfl ?_; refine XL_int (shl_o hk6 hP) ?_) | (refine XL_op tt_ok rfl rfl ?_; try (first | refine XL_int (wrap_i64 (by omega) (by omega)) ?_ | refine XL_dec_t (by omega) ?_ | refine XL_dec_f (by omega) ?_))) | (refine X_id ?_; first | refine X_seq ?_ | (refine X_regionN (by repeat' (first | exact .nil | apply NL.cons)) ?_) | refine X_exit ?_ | refine X_cond_f rfl ?_) | (refine Y_id ?_; first | refine Y_then ?_ | refine Y_then_exit ?_ | refine Y_block_hit ?_ | refine Y_block_normal ?_))
          all_goals first
            | exact Y_again (x + P, l.set k ⟨A3, (Cof.get l (k : Int)).m + 1, c3, (Cof.get l (k : Int)).xs ++ [(x : Int)]⟩) fun _ _ hf hs => ⟨hset A3 c3, by show op.length - (x + P) < op.length - x; omega, hf.sub (by (repeat' (first | exact trivial | refine And.intro rfl ?_)); done), hs.imp fun h hs => stars_swap (allI_put hk7 ⟨A3, (Cof.get l (k : Int)).m + 1, c3, (Cof.get l (k : Int)).xs ++ [(x : Int)]⟩ (stars_only [1, 1, 1] rfl h hs))⟩
            | (exfalso; omega)
            | skip
          
        · have hop := ropen_spec r ob tb op hn x (k + 1) (by omega) (by omega)
          rw [hal] at hop
          have hrem : (x : Int).tmod (P2 : Int) = 0 := by rw [← hP2]; exact Int.tmod_eq_zero_of_dvd (Int.natCast_dvd_natCast.2 hdv)
          repeat' (first | (refine XL_id ?_; first | refine XL_nil ?_ | refine XL_guard_yes rfl rfl rfl ?_ | (refine XG_load ?_; refine XL_elo tt_ok 2 rfl rfl rfl (by omega) (by omega) rfl rfl rfl rfl ?_) | (refine XG_idx ?_; first | refine XL_idxo tt_ok 2 rfl rfl rfl rfl rfl rfl (by omega) (by omega) rfl ?_ | refine XL_idxo tt_ok 3 rfl rfl rfl rfl rfl rfl (by omega) (by omega) rfl ?_) | (refine XG_call ?_; first | refine XL_fn hop rfl rfl (fun g hg hL => ⟨blk_le hbk hg, r1.le hg⟩) ?_ | (refine XL_app1 (E := encN) tt_ok 1 0 (x : Int) rfl rfl rfl rfl rfl rfl rfl rfl rfl rfl rfl (by show (_ : Nat) * 8 ≤ _; omega) (by omega) (fun _ _ => rfl) (fun A3 c3 => ?_))) | (refine XG_store ?_; refine XL_put (i := k) (f := 0) (x' := (⟨A3, (Cof.get l (k : Int)).m + 1, c3, (Cof.get l (k : Int)).xs ++ [(x : Int)]⟩ : In Int)) tt_ok 3 rfl rfl (place_0 rfl) rfl rfl rfl rfl (by omega) rfl rfl rfl ?_) | (refine XG_lit ?_; (refine XL_lit tt_ok rfl rfl rfl rfl rfl rfl rfl rfl rfl (fun _ => rfl) (fun b => ?_); refine XL_nB (by repeat' (first | exact .nil | apply NL.cons)) ?_)) | (refine XL_op tt_ok (opV_shl rfl rfl (by omega)) rfl ?_; refine XL_int (shl_2 (by omega) hP2) ?_) | (refine XL_op tt_ok (opV_rem rfl rfl (by omega)) rfl ?_; refine XL_int hrem ?_) | (refine XL_op tt_ok (opV_shl rfl rfl (by omega)) rfl ?_; refine XL_int (shl_o hk6 hP) ?_) | (refine XL_op tt_ok rfl rfl ?_; try (first | refine XL_int (wrap_i64 (by omega) (by omega)) ?_ | refine XL_dec_t (by omega) ?_))) | (refine X_id ?_; first | refine X_seq ?_ | (refine X_regionN (by repeat' (first | exact .nil | apply NL.cons)) ?_) | refine X_exit ?_ | refine X_cond_f rfl ?_) | (refine Y_id ?_; first | refine Y_then ?_ | refine Y_then_exit ?_ | refine Y_block_hit ?_ | refine Y_block_normal ?_))
          all_goals first
            | exact Y_again (x + P, l.set k ⟨A3, (Cof.get l (k : Int)).m + 1, c3, (Cof.get l (k : Int)).xs ++ [(x : Int)]⟩) fun _ _ hf hs => ⟨hset A3 c3, by show op.length - (x + P) < op.length - x; omega, hf.sub (by (repeat' (first | exact trivial | refine And.intro rfl ?_)); done), hs.imp fun h hs => stars_swap (allI_put hk7 ⟨A3, (Cof.get l (k : Int)).m + 1, c3, (Cof.get l (k : Int)).xs ++ [(x : Int)]⟩ (stars_only [1, 1, 1] rfl h hs))⟩
            | (exfalso; omega)
            | skip
          
  · obtain rfl : x = op.length := by omega
    have he := (pl_end (Nat.le_refl _) hpl).uniq hfs
    repeat' (first | (refine XL_id ?_; first | refine XL_nil ?_ | (refine XG_load ?_; refine XL_loadF tt_ok rfl (by assumption) rfl rfl rfl rfl ?_) | (refine XL_op tt_ok rfl rfl ?_; try (refine XL_dec_f (by omega) ?_))) | (refine X_id ?_; first | refine X_seq ?_ | (refine X_regionN (by repeat' (first | exact .nil | apply NL.cons)) ?_) | refine X_ret ?_ | refine X_exit ?_ | refine X_cond_f rfl ?_) | (refine Y_id ?_; first | refine Y_then ?_ | refine Y_then_exit ?_ | refine Y_block_hit ?_))
    all_goals first
      | exact Y_ret1 rfl rfl (stars_fin [0, 0] rfl (fun h hs => ⟨⟨rfl, fun q hq => (hlm q hq).1⟩, hs⟩)) ⟨⟨some ⟨g, 0, none⟩, 7, 7, l⟩, he, rfl, rfl⟩
      | (exfalso; omega)
      | skip
    
end Go.Proofs.Ytkcpjgdmfjhlkaa
