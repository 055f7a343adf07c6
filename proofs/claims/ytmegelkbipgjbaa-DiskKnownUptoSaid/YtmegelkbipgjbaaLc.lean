/- DiskPlays, walked. -/
import Derived.Test.YtmegelkbipgjbaaLb
set_option linter.unusedVariables false
namespace Go.Proofs.Ytmegelkbipgjbaa
open Go.RowKit Go.Cof

def okN (n : Int) : Nat := if 0 ≤ n ∧ n ≤ 1024 then n.toNat else 0
def erN (n : Int) : Int := if 0 ≤ n ∧ n ≤ 1024 then 0 else 2
theorem pnewO (n : Int) : Ctr Try.prog 7 [iV n] (fun _ => True) [] (fun v L => ∃ p : Option Nat, p.isSome = decide (0 ≤ n ∧ n ≤ 1024) ∧ v = .tuple #[ptrO p, iV (erN n)] ∧ L = [isDkO p (okN n) (List.replicate (okN n) [])]) := by
  by_cases h : 0 ≤ n ∧ n ≤ 1024
  · rw [show okN n = n.toNat from if_pos h, show erN n = 0 from if_pos h]
    obtain ⟨a, rfl⟩ := Int.eq_ofNat_of_zero_le h.1
    refine (new_ok a (by omega)).mono (fun _ h => h) ?_
    rintro v L ⟨p, rfl, rfl⟩
    exact ⟨_, ⟨some p, (decide_eq_true h).symm, rfl, rfl⟩, fun h hh => hh⟩
  · rw [show okN n = 0 from if_neg h, show erN n = 2 from if_neg h]
    refine Ctr.mono (new_bad n (by omega)) (fun _ h => h) ?_
    rintro v L ⟨rfl, rfl⟩
    exact ⟨_, ⟨none, (decide_eq_false h).symm, rfl, rfl⟩, fun h hh => stars_new ⟨rfl, rfl⟩ hh⟩
theorem rnewO (n : Int) : Ctr Try.prog 14 [iV n] (fun _ => True) [] (fun v L => ∃ p : Option Nat, p.isSome = decide (0 ≤ n ∧ n ≤ 1024) ∧ v = .tuple #[ptrO p, iV (erN n)] ∧ L = [isRfO p (okN n) (List.replicate (okN n) [])]) := by
  by_cases h : 0 ≤ n ∧ n ≤ 1024
  · rw [show okN n = n.toNat from if_pos h, show erN n = 0 from if_pos h]
    obtain ⟨a, rfl⟩ := Int.eq_ofNat_of_zero_le h.1
    refine (rnew_ok a (by omega)).mono (fun _ h => h) ?_
    rintro v L ⟨p, rfl, rfl⟩
    exact ⟨_, ⟨some p, (decide_eq_true h).symm, rfl, rfl⟩, fun h hh => hh⟩
  · rw [show okN n = 0 from if_neg h, show erN n = 2 from if_neg h]
    refine Ctr.mono (rnew_bad n (by omega)) (fun _ h => h) ?_
    rintro v L ⟨rfl, rfl⟩
    exact ⟨_, ⟨none, (decide_eq_false h).symm, rfl, rfl⟩, fun h hh => stars_new ⟨rfl, rfl⟩ hh⟩
theorem okN_le (n : Int) : okN n ≤ 1024 := by unfold okN; split <;> omega
structure DdsOk (h : Hp) (A : Option Addr) (m : Nat) (l : List Dd) : Prop where
  rd : rdS encDd h A m l
  sub : ∀ x ∈ l, rdS encU h x.b.A x.b.m x.b.xs
theorem isDkO_len {p : Option Nat} {n : Nat} {s : List (List Int)} {h : Hp} (hd : isDkO p n s h) : (usedF s).length ≤ n := by
  have := usedTo_len s s.length
  cases p with
  | none => obtain ⟨rfl, rfl⟩ := hd; exact Nat.le_refl _
  | some p => obtain ⟨mb, hok, _⟩ := hd; rw [← hok.len]; exact this
theorem eqI_same (A B : Option Addr) (m c m' c' : Nat) (xs : List Int) (hm : m ≤ 9223372036854775807) (hm' : m' ≤ 9223372036854775807) : FnC Try.prog 19 [.slice A m c, .slice B m' c'] (fun h => rdS encN h A m xs ∧ rdS encN h B m' xs) (.bool true) := by
  have := eqInts_spec A B m c m' c' xs xs hm hm'
  rw [decide_eq_true rfl] at this
  exact this
set_option maxRecDepth 100000 in
set_option maxHeartbeats 16000000 in
theorem diskPlays_walk (n : Int) (A : Option Addr) (m c : Nat) (l : List Dd) (hm : m ≤ 9223372036854775807) (hl : ∀ x ∈ l, x.In) :
    FnC Try.prog 4 [iV n, .slice A m c] (fun h => DdsOk h A m l) (.bool true) := by
  have hnp := pnewO n
  have hnr := rnewO n
  have hN := okN_le n
  obtain ⟨N, hNe⟩ : ∃ N, okN n = N := ⟨_, rfl⟩
  obtain ⟨E, hEe⟩ : ∃ E, erN n = E := ⟨_, rfl⟩
  rw [hNe, hEe] at hnp hnr
  rw [hNe] at hN
  refine Ctr.intro Try.func4 rfl rfl (by decide +kernel) fun F hpre => ?_
  have r1 : rdS encDd F.heap A m l := hpre.rd
  have hlen := r1.1
  repeat' (first | (refine XL_id ?_; first | refine XL_nil ?_ | (refine XG_call ?_; first | (refine XL_callK [] hnp rfl rfl (fun _ => rfl) (fun _ _ _ => trivial) (fun u L hv => ?_); obtain ⟨p, hp, rfl, rfl⟩ := hv) | (refine XL_callK [] hnr rfl rfl (fun _ => rfl) (fun _ _ _ => trivial) (fun u L hv => ?_); obtain ⟨q, hq, rfl, rfl⟩ := hv)) | (refine XL_op tt_ok rfl rfl ?_)) | (refine X_id ?_; first | refine X_cutD (c := .region 3 _ _) [1, 5, 6, 7, 8] (fun (_ : Unit) => [(40, .bool false)]) (fun _ => [isRfO q N (List.replicate N []), isDkO p N (List.replicate N [])]) (fun _ => True) rfl (hold ?_) (fun _ _ => hold ?_) | refine X_seq ?_ | (refine X_regionN (by repeat' (first | exact .nil | apply NL.cons)) ?_)) | (refine Y_id ?_; refine Y_then ?_))
  · intro _
    cases p with
    | none =>
      cases q with
      | some q => rw [← hq] at hp; cases hp
      | none =>
        repeat' (first | (refine XL_id ?_; first | refine XL_nil ?_ | refine XL_guard_yes rfl rfl rfl ?_ | (refine XG_call ?_; first | refine XL_fn pSlots_n rfl rfl (fun _ _ _ => trivial) ?_ | refine XL_fn rSlots_n rfl rfl (fun _ _ _ => trivial) ?_) | (refine XL_op tt_ok rfl rfl ?_; try (refine XL_dec_f (by omega) ?_))) | (refine X_id ?_; (refine X_regionN (by repeat' (first | exact .nil | apply NL.cons)) ?_)))
        all_goals first
          | exact Y_again () fun _ _ hf hs => ⟨trivial, hf.sub (by (repeat' (first | exact trivial | refine And.intro rfl ?_)); done), hs⟩
          | (exfalso; omega)
          | skip
        
    | some p =>
      cases q with
      | none => rw [← hq] at hp; cases hp
      | some q =>
        repeat' (first | (refine XL_id ?_; first | refine XL_nil ?_ | refine XL_guard_yes rfl rfl rfl ?_ | (refine XG_call ?_; first | refine XL_callE [1] (pslotsO (some p) N _) rfl rfl rfl (fun _ _ _ => trivial) ?_ | refine XL_callE [1] (rslotsO (some q) N _) rfl rfl rfl (fun _ _ _ => trivial) ?_) | (refine XL_op tt_ok rfl rfl ?_; try (refine XL_dec_f (by omega) ?_))) | (refine X_id ?_; (refine X_regionN (by repeat' (first | exact .nil | apply NL.cons)) ?_)))
        all_goals first
          | exact Y_again () fun _ _ hf hs => ⟨trivial, hf.sub (by (repeat' (first | exact trivial | refine And.intro rfl ?_)); done), hs.imp fun g hg => by first | exact hg | exact stars_take [1, 0] rfl hg⟩
          | (exfalso; omega)
          | skip
        
  · intro _
    refine Y_then ?_
    have hpq : p.isSome = q.isSome := by rw [hp, hq]
    repeat' (first | (refine XL_id ?_; first | refine XL_nil ?_ | (refine XL_op tt_ok rfl rfl ?_)) | (refine X_id ?_; first | refine X_block (id := 0) (hold ?_) | refine X_seq ?_ | (refine X_regionN (by repeat' (first | exact .nil | apply NL.cons)) ?_) | refine X_skip ?_ | refine X_cond_f rfl ?_) | (refine Y_id ?_; refine Y_then ?_))
    all_goals first
      | (exfalso; omega)
      | skip
    intro _
    refine X_loopD2 [1, 5, 7] (fun (i : Nat) (s : List (List Int)) => [(9, .int .i64 i)]) (fun i s => [isDkO p N s, isRfO q N s]) (fun i s => i ≤ m) (fun i s => m - i) 0 (List.replicate N []) rfl (Nat.zero_le _) (by (repeat' (first | exact trivial | refine And.intro rfl ?_)); done) (fun h hs => stars_take [1, 0] rfl hs) ?_
    intro i s hi
    repeat' ((refine X_id ?_; first | refine X_cutD (c := .region 6 _ _) [1, 5, 7, 9] (fun (b : Bool) => [(48, .bool b)]) (fun _ => [isDkO p N s, isRfO q N s]) (fun b => b = decide (i < m ∧ i < 60)) rfl (hold ?_) (fun b hb => hold ?_) | refine X_seq ?_))
    · intro _
      by_cases h1 : i < m
      · by_cases h2 : i < 60
        · rw [decide_eq_true (show i < m ∧ i < 60 from ⟨h1, h2⟩)]
          repeat' (first | (refine XL_id ?_; first | refine XL_nil ?_ | refine XL_guard_yes rfl rfl rfl ?_ | (refine XL_op tt_ok rfl rfl ?_; try (refine XL_dec_t (by omega) ?_))) | (refine X_id ?_; (refine X_regionN (by repeat' (first | exact .nil | apply NL.cons)) ?_)))
          all_goals first
            | exact Y_again true fun _ _ hf hs => ⟨rfl, hf.sub (by (repeat' (first | exact trivial | refine And.intro rfl ?_)); done), hs⟩
            | (exfalso; omega)
            | skip
          
        · rw [decide_eq_false (show ¬ (i < m ∧ i < 60) from fun h => h2 h.2)]
          repeat' (first | (refine XL_id ?_; first | refine XL_nil ?_ | refine XL_guard_yes rfl rfl rfl ?_ | (refine XL_op tt_ok rfl rfl ?_; try (first | refine XL_dec_t (by omega) ?_ | refine XL_dec_f (by omega) ?_))) | (refine X_id ?_; (refine X_regionN (by repeat' (first | exact .nil | apply NL.cons)) ?_)))
          all_goals first
            | exact Y_again false fun _ _ hf hs => ⟨rfl, hf.sub (by (repeat' (first | exact trivial | refine And.intro rfl ?_)); done), hs⟩
            | (exfalso; omega)
            | skip
          
      · rw [decide_eq_false (show ¬ (i < m ∧ i < 60) from fun h => h1 h.1)]
        repeat' (first | (refine XL_id ?_; first | refine XL_nil ?_ | refine XL_guard_no rfl rfl rfl rfl rfl ?_ | (refine XL_op tt_ok rfl rfl ?_; try (refine XL_dec_f (by omega) ?_))) | (refine X_id ?_; (refine X_regionN (by repeat' (first | exact .nil | apply NL.cons)) ?_)))
        all_goals first
          | exact Y_again false fun _ _ hf hs => ⟨rfl, hf.sub (by (repeat' (first | exact trivial | refine And.intro rfl ?_)); done), hs⟩
          | (exfalso; omega)
          | skip
        
    · intro _
      refine Y_then ?_
      cases b with
      | true =>
        have hlt := of_decide_eq_true hb.symm
        obtain ⟨hlt, h60⟩ := hlt
        have hmem : Cof.get l (i : Int) ∈ l := get_mem' (l := l) (i := (i : Int)) (by omega) (by omega)
        have hd := done_spec p q hpq N s (Cof.get l (i : Int)) (hl _ hmem)
        have hsub := hpre.sub _ hmem
        repeat' (first | (refine XL_id ?_; first | refine XL_nil ?_ | (refine XL_fact 0 rfl (fun _ o => isDkO_len o) (fun hul => ?_); refine XL_callK [0] (pusedO p N _) rfl rfl (fun _ => rfl) (fun _ _ _ => trivial) (fun u L hv => ?_); obtain ⟨AA, ca, rfl, rfl⟩ := hv) | (refine XG_load ?_; refine XL_elW tt_ok rfl (by assumption) rfl (by omega) (by omega) rfl rfl rfl rfl ?_) | (refine XG_idx ?_; refine XL_idx tt_ok rfl rfl rfl rfl rfl (by assumption) (by omega) (by omega) rfl ?_) | (refine XG_call ?_; first | (refine XL_callK [0, 0] hd rfl rfl (fun _ => rfl) (fun g hg hL => hsub.le hg) (fun u L hv => ?_); obtain ⟨s1, rfl, rfl⟩ := hv) | (refine XL_callK [1] (pusedO p N _) rfl rfl (fun _ => rfl) (fun _ _ _ => trivial) (fun u L hv => ?_); obtain ⟨AB, cb, rfl, rfl⟩ := hv) | (refine XL_callK [3] (rusedO q N _) rfl rfl (fun _ => rfl) (fun _ _ _ => trivial) (fun u L hv => ?_); obtain ⟨A3, c3, rfl, rfl⟩ := hv) | (refine XL_fn (eqI_same _ _ _ _ _ _ (usedF s1) (by omega) (by omega)) rfl rfl (fun g hg hL => ⟨by exact rd_at 4 rfl hL, rd_at 0 rfl hL⟩) ?_)) | (refine XL_op tt_ok rfl rfl ?_)) | (refine X_id ?_; first | refine X_block (id := 2) (hold ?_) | refine X_seq ?_ | (refine X_regionN (by repeat' (first | exact .nil | apply NL.cons)) ?_) | refine X_skip ?_ | refine X_block ?_ | refine X_cond_t rfl ?_ | refine X_cond_f rfl ?_) | (refine Y_id ?_; refine Y_then ?_))
        all_goals first
          | (exfalso; omega)
          | skip
        intro _
        refine X_loopD2 [1, 5, 7, 9, 10, 11] (fun (j : Nat) (zs : List Int) => [(12, .int .i64 j)]) (fun j zs => [own encN AA (usedF s1).length ca zs, own encN AB (usedF s1).length cb (usedF s1), isDkO p N s1, isRfO q N s1]) (fun j _ => j ≤ (usedF s1).length) (fun j _ => (usedF s1).length - j) 0 (usedF s1) rfl (Nat.zero_le _) (by (repeat' (first | exact trivial | refine And.intro rfl ?_)); done) (stars_only [4, 2, 2, 1] rfl) ?_
        intro j zs hj
        by_cases hlt2 : j < (usedF s1).length
        · repeat' (first | (refine XL_id ?_; first | refine XL_nil ?_ | (refine XG_idx ?_; refine XL_idxo tt_ok 0 rfl rfl rfl rfl rfl rfl (by omega) (by omega) rfl ?_) | (refine XG_store ?_; refine XL_putO tt_ok 0 (-9 : Int) rfl rfl rfl rfl rfl rfl rfl (by omega) rfl ?_) | (refine XL_op tt_ok rfl rfl ?_; try (first | refine XL_int (wrap_i64 (by omega) (by omega)) ?_ | refine XL_dec_t (by omega) ?_))) | (refine X_id ?_; first | refine X_seq ?_ | (refine X_regionN (by repeat' (first | exact .nil | apply NL.cons)) ?_) | refine X_skip ?_ | refine X_block ?_ | refine X_cond_t rfl ?_) | (refine Y_id ?_; first | refine Y_then ?_ | refine Y_block_normal ?_))
          all_goals first
            | exact Y_again (j + 1, zs.set (j : Int).toNat (-9)) fun _ _ hf hs => ⟨hlt2, by show (usedF s1).length - (j + 1) < (usedF s1).length - j; omega, hf.sub (by (repeat' (first | exact trivial | refine And.intro rfl ?_)); done), hs⟩
            | (exfalso; omega)
            | skip
          
        · repeat' (first | (refine XL_id ?_; first | refine XL_nil ?_ | (refine XG_call ?_; first | (refine XL_op tt_ok rfl rfl ?_) | (refine XL_callK [3] (rusedO q N _) rfl rfl (fun _ => rfl) (fun _ _ _ => trivial) (fun u L hv => ?_); obtain ⟨A4, c4, rfl, rfl⟩ := hv) | refine XL_fn (eqI_same _ _ _ _ _ _ (usedF s1) (by omega) (by omega)) rfl rfl (fun g hg hL => ⟨rd_at 3 rfl hL, rd_at 0 rfl hL⟩) ?_) | (refine XL_op tt_ok rfl rfl ?_; try (first | refine XL_int (wrap_i64 (by omega) (by omega)) ?_ | refine XL_dec_f (by omega) ?_))) | (refine X_id ?_; first | refine X_seq ?_ | (refine X_regionN (by repeat' (first | exact .nil | apply NL.cons)) ?_) | refine X_skip ?_ | refine X_exit ?_ | refine X_cond_f rfl ?_) | (refine Y_id ?_; first | refine Y_then ?_ | refine Y_then_exit ?_ | refine Y_block_hit ?_ | refine Y_block_normal ?_))
          all_goals first
            | exact Y_again (i + 1, s1) fun _ _ hf hs => ⟨hlt, by show m - (i + 1) < m - i; omega, hf.sub (by (repeat' (first | exact trivial | refine And.intro rfl ?_)); done), hs.imp fun g hg => stars_only [4, 1] rfl g hg⟩
            | (exfalso; omega)
            | skip
          
      | false =>
        repeat' (first | (refine XL_id ?_; first | refine XL_nil ?_ | (refine XL_op tt_ok rfl rfl ?_)) | (refine X_id ?_; first | refine X_block (id := 4) (hold ?_) | refine X_seq ?_ | (refine X_regionN (by repeat' (first | exact .nil | apply NL.cons)) ?_) | refine X_exit ?_ | refine X_cond_f rfl ?_) | (refine Y_id ?_; first | refine Y_then ?_ | refine Y_then_exit ?_ | refine Y_block_hit ?_))
        all_goals first
          | (exfalso; omega)
          | skip
        intro _
        refine X_loopD [5, 7] (fun (k : Nat) => [(13, .int .i64 k)]) (fun _ => [isDkO p N s, isRfO q N s]) (fun k => k ≤ N) (fun k => N - k) 0 rfl (Nat.zero_le _) (by (repeat' (first | exact trivial | refine And.intro rfl ?_)); done) (fun h hs => hs) ?_
        intro k hk
        replace hk : k ≤ N := hk
        repeat' ((refine X_id ?_; first | refine X_cutD (c := .region 20 _ _) [5, 7, 13] (fun (b : Bool) => [(89, .bool b)]) (fun _ => [isDkO p N s, isRfO q N s]) (fun b => b = true → k < N) rfl (hold ?_) (fun b hb => hold ?_) | refine X_seq ?_))
        · intro _
          by_cases h1 : k < N
          · by_cases h2 : k < 70
            · repeat' (first | (refine XL_id ?_; first | refine XL_nil ?_ | refine XL_guard_yes rfl rfl rfl ?_ | (refine XG_call ?_; refine XL_callE [1] (rslotsO q N s) rfl rfl rfl (fun _ _ _ => trivial) ?_) | (refine XL_op tt_ok rfl rfl ?_; try (refine XL_dec_t (by omega) ?_))) | (refine X_id ?_; (refine X_regionN (by repeat' (first | exact .nil | apply NL.cons)) ?_)))
              all_goals first
                | exact Y_again true fun _ _ hf hs => ⟨fun _ => h1, hf.sub (by (repeat' (first | exact trivial | refine And.intro rfl ?_)); done), hs.imp fun g hg => stars_take [1, 0] rfl hg⟩
                | (exfalso; omega)
                | skip
              
            · repeat' (first | (refine XL_id ?_; first | refine XL_nil ?_ | refine XL_guard_yes rfl rfl rfl ?_ | (refine XG_call ?_; refine XL_callE [1] (rslotsO q N s) rfl rfl rfl (fun _ _ _ => trivial) ?_) | (refine XL_op tt_ok rfl rfl ?_; try (first | refine XL_dec_t (by omega) ?_ | refine XL_dec_f (by omega) ?_))) | (refine X_id ?_; (refine X_regionN (by repeat' (first | exact .nil | apply NL.cons)) ?_)))
              all_goals first
                | exact Y_again false fun _ _ hf hs => ⟨fun h => (by cases h), hf.sub (by (repeat' (first | exact trivial | refine And.intro rfl ?_)); done), hs.imp fun g hg => stars_take [1, 0] rfl hg⟩
                | (exfalso; omega)
                | skip
              
          · repeat' (first | (refine XL_id ?_; first | refine XL_nil ?_ | refine XL_guard_no rfl rfl rfl rfl rfl ?_ | (refine XG_call ?_; refine XL_callE [1] (rslotsO q N s) rfl rfl rfl (fun _ _ _ => trivial) ?_) | (refine XL_op tt_ok rfl rfl ?_; try (refine XL_dec_f (by omega) ?_))) | (refine X_id ?_; (refine X_regionN (by repeat' (first | exact .nil | apply NL.cons)) ?_)))
            all_goals first
              | exact Y_again false fun _ _ hf hs => ⟨fun h => (by cases h), hf.sub (by (repeat' (first | exact trivial | refine And.intro rfl ?_)); done), hs.imp fun g hg => stars_take [1, 0] rfl hg⟩
              | (exfalso; omega)
              | skip
            
        · intro _
          refine Y_then ?_
          cases b with
          | true =>
            have hkN : k < N := hb rfl
            repeat' (first | (refine XL_id ?_; first | refine XL_nil ?_ | (refine XG_call ?_; refine XL_callE [0, 0] (readL_spec p q hpq N s k) rfl rfl rfl (fun _ _ _ => trivial) ?_) | (refine XL_op tt_ok rfl rfl ?_; try (refine XL_int (wrap_i64 (by omega) (by omega)) ?_))) | (refine X_id ?_; first | refine X_seq ?_ | (refine X_regionN (by repeat' (first | exact .nil | apply NL.cons)) ?_) | refine X_skip ?_ | refine X_block ?_ | refine X_cond_t rfl ?_ | refine X_cond_f rfl ?_) | (refine Y_id ?_; first | refine Y_then ?_ | refine Y_block_normal ?_))
            all_goals first
              | exact Y_again (k + 1) fun _ _ hf hs => ⟨hkN, by show N - (k + 1) < N - k; omega, hf.sub (by (repeat' (first | exact trivial | refine And.intro rfl ?_)); done), hs⟩
              | (exfalso; omega)
              | skip
            
          | false =>
            repeat' (first | (refine XL_id ?_; first | refine XL_nil ?_ | (refine XG_call ?_; refine XL_fn works_spec rfl rfl (fun _ _ _ => trivial) ?_) | (refine XL_op tt_ok rfl rfl ?_; try (refine XL_dec_t (by omega) ?_))) | (refine X_id ?_; first | refine X_seq ?_ | (refine X_regionN (by repeat' (first | exact .nil | apply NL.cons)) ?_) | refine X_ret ?_ | refine X_exit ?_ | refine X_cond_f rfl ?_) | (refine Y_id ?_; first | refine Y_then ?_ | refine Y_then_exit ?_ | refine Y_block_hit ?_))
            all_goals first
              | exact Y_fn1 rfl rfl rfl
              | (exfalso; omega)
              | skip
            
end Go.Proofs.Ytmegelkbipgjbaa
