/- DiskStays, walked. -/
import Derived.Test.YtmegelkbipgjbaaLc
set_option linter.unusedVariables false
namespace Go.Proofs.Ytmegelkbipgjbaa
open Go.RowKit Go.Cof

theorem read_any (p n : Nat) (s : List (List Int)) (k : Int) : Ctr Try.prog 11 [ptr p, iV k] (fun _ => True) [isDk p n s] (fun v L => ∃ A c, v = .tuple #[.slice A (rdX (some p) n k s).length c, iV (rdE n k s)] ∧ L = [own encU A (rdX (some p) n k s).length c (rdX (some p) n k s), isDk p n s]) := preadO (some p) n s k
theorem isDk_ok {p n : Nat} {s : List (List Int)} {h : Hp} (hd : isDk p n s h) : DOk n s := let ⟨_, hok, _⟩ := hd; hok
theorem wrS_other {n : Nat} {s : List (List Int)} {o k : Int} {xs : List Int} (h : DOk n s) (hk : 0 ≤ k) (ho : o ≠ k) : Cof.get (wrS n o xs s) k = Cof.get s k := by
  unfold wrS
  split
  · rename_i g; rw [getI_set g.1 (by rw [h.len]; exact g.2.1) hk, if_neg ho]
  · rfl
theorem erS_other {n : Nat} {s : List (List Int)} {o k : Int} (h : DOk n s) (hk : 0 ≤ k) (ho : o ≠ k) : Cof.get (erS n o s) k = Cof.get s k := by
  unfold erS
  split
  · rename_i g; rw [getI_set (rdE_in g).1 (by rw [h.len]; exact (rdE_in g).2.1) hk, if_neg ho]
  · rfl
theorem eqB_same (A B : Option Addr) (m c m' c' : Nat) (xs : List Int) (hm : m ≤ 9223372036854775807) (hm' : m' ≤ 9223372036854775807) : FnC Try.prog 13 [.slice A m c, .slice B m' c'] (fun h => rdS encU h A m xs ∧ rdS encU h B m' xs) (.bool true) := by
  have := eqB_spec A B m c m' c' xs xs hm hm'
  rw [decide_eq_true rfl] at this
  exact this
set_option maxRecDepth 100000 in
set_option maxHeartbeats 16000000 in
theorem diskStays_walk (slot : Int) (B : Option Addr) (bm bc : Nat) (bs : List Int) (A : Option Addr) (m c : Nat) (l : List Dd) (hs1 : -9223372036854775808 ≤ slot) (hs2 : slot ≤ 9223372036854775807) (hbm : bm ≤ 9223372036854775807) (hm : m ≤ 9223372036854775807) (hl : ∀ x ∈ l, x.In) :
    FnC Try.prog 3 [iV slot, .slice B bm bc, .slice A m c] (fun h => rdS encU h B bm bs ∧ DdsOk h A m l) (.bool true) := by
  have hk5 := kind_spec slot 5 hs1 hs2 (by decide) (by decide)
  have hk1 := Int.emod_nonneg slot (show (5 : Int) ≠ 0 by decide)
  have hk2 := Int.emod_lt_of_pos slot (show (0 : Int) < 5 by decide)
  obtain ⟨K, hK⟩ : ∃ K, slot % 5 = K := ⟨_, rfl⟩
  rw [hK] at hk5 hk1 hk2
  obtain ⟨pg, hpg⟩ : ∃ pg, pageF bs = pg := ⟨_, rfl⟩
  have hpl : pg.length = 256 := by rw [← hpg]; exact pageF_len _
  have hne : pg ≠ [] := fun e => by rw [e] at hpl; cases hpl
  have hpb := page_spec B bm bc bs hbm
  rw [hpg] at hpb
  have e0 : wrE (5 : Nat) K pg = 0 := if_pos ⟨hk1, hk2, hpl⟩
  have es0 : wrS (5 : Nat) K pg (List.replicate 5 []) = (List.replicate 5 []).set K.toNat pg := if_pos ⟨hk1, hk2, hpl⟩
  have hw0 := fun (p b : Nat) => write_spec p 5 (List.replicate 5 []) K (some ⟨b, 0, none⟩) 256 256 pg (fun _ => ⟨b, rfl⟩)
  rw [e0, es0] at hw0
  have hg0 : Cof.get ((List.replicate 5 ([] : List Int)).set K.toNat pg) K = pg := by rw [getI_set hk1 (by rw [List.length_replicate]; exact hk2) hk1, if_pos rfl]
  obtain ⟨s0, hs0⟩ : ∃ s0, (List.replicate 5 ([] : List Int)).set K.toNat pg = s0 := ⟨_, rfl⟩
  rw [hs0] at hw0 hg0
  refine Ctr.intro Try.func3 rfl rfl (by decide +kernel) fun F hpre => ?_
  obtain ⟨rb, hdd⟩ := hpre
  have r1 : rdS encDd F.heap A m l := hdd.rd
  have hlen := r1.1
  repeat' (first | (refine XL_id ?_; first | refine XL_nil ?_ | refine XL_guard_yes rfl rfl rfl ?_ | (refine XG_call ?_; first | refine XL_fn works_spec rfl rfl (fun _ _ _ => trivial) ?_ | (refine XL_callK [] (new_ok 5 (by decide)) rfl rfl (fun _ => rfl) (fun _ _ _ => trivial) (fun u L hv => ?_); obtain ⟨p, rfl, rfl⟩ := hv) | refine XL_fn hk5 rfl rfl (fun _ _ _ => trivial) ?_ | (refine XL_callK [] hpb rfl rfl (fun _ => rfl) (fun g hg hL => rb.le hg) (fun u L hv => ?_); obtain ⟨bq, rfl, rfl⟩ := hv) | refine XL_callE [1] (hw0 _ _) rfl rfl rfl (fun g hg hL => rd_at 0 rfl hL) ?_) | (refine XL_op tt_ok rfl rfl ?_; try (refine XL_dec_f (by omega) ?_))) | (refine X_id ?_; first | refine X_block (id := 0) (hold ?_) | refine X_seq ?_ | (refine X_regionN (by repeat' (first | exact .nil | apply NL.cons)) ?_) | refine X_skip ?_ | refine X_cond_f rfl ?_) | (refine Y_id ?_; refine Y_then ?_))
  all_goals first
    | (exfalso; omega)
    | skip
  intro _
  refine X_loopD2 [0, 1, 2, 7] (fun (i : Nat) (s : List (List Int)) => [(9, .int .i64 i)]) (fun i s => [isDk p 5 s]) (fun i s => i ≤ m ∧ Cof.get s K = pg) (fun i s => m - i) 0 s0 rfl ⟨Nat.zero_le _, hg0⟩ (by (repeat' (first | exact trivial | refine And.intro rfl ?_)); done) (stars_only [0] rfl) ?_
  intro i s hi
  obtain ⟨hi, hgs⟩ := hi
  repeat' ((refine X_id ?_; first | refine X_cutD (c := .region 8 _ _) [0, 1, 2, 7, 9] (fun (b : Bool) => [(41, .bool b)]) (fun _ => [isDk p 5 s]) (fun b => b = true → i < m) rfl (hold ?_) (fun b hb => hold ?_) | refine X_seq ?_))
  · intro _
    by_cases h1 : i < m
    · by_cases h2 : i < 40
      · repeat' (first | (refine XL_id ?_; first | refine XL_nil ?_ | refine XL_guard_yes rfl rfl rfl ?_ | (refine XL_op tt_ok rfl rfl ?_; try (refine XL_dec_t (by omega) ?_))) | (refine X_id ?_; (refine X_regionN (by repeat' (first | exact .nil | apply NL.cons)) ?_)))
        all_goals first
          | exact Y_again true fun _ _ hf hs => ⟨fun _ => h1, hf.sub (by (repeat' (first | exact trivial | refine And.intro rfl ?_)); done), hs⟩
          | (exfalso; omega)
          | skip
        
      · repeat' (first | (refine XL_id ?_; first | refine XL_nil ?_ | refine XL_guard_yes rfl rfl rfl ?_ | (refine XL_op tt_ok rfl rfl ?_; try (first | refine XL_dec_t (by omega) ?_ | refine XL_dec_f (by omega) ?_))) | (refine X_id ?_; (refine X_regionN (by repeat' (first | exact .nil | apply NL.cons)) ?_)))
        all_goals first
          | exact Y_again false fun _ _ hf hs => ⟨fun h => (by cases h), hf.sub (by (repeat' (first | exact trivial | refine And.intro rfl ?_)); done), hs⟩
          | (exfalso; omega)
          | skip
        
    · repeat' (first | (refine XL_id ?_; first | refine XL_nil ?_ | refine XL_guard_no rfl rfl rfl rfl rfl ?_ | (refine XL_op tt_ok rfl rfl ?_; try (refine XL_dec_f (by omega) ?_))) | (refine X_id ?_; (refine X_regionN (by repeat' (first | exact .nil | apply NL.cons)) ?_)))
      all_goals first
        | exact Y_again false fun _ _ hf hs => ⟨fun h => (by cases h), hf.sub (by (repeat' (first | exact trivial | refine And.intro rfl ?_)); done), hs⟩
        | (exfalso; omega)
        | skip
      
  · intro _
    refine Y_then ?_
    refine X_fact 0 rfl (fun _ o => isDk_ok o) fun hok => ?_
    cases b with
    | true =>
      have hlt : i < m := hb rfl
      have hmem : Cof.get l (i : Int) ∈ l := get_mem' (l := l) (i := (i : Int)) (by omega) (by omega)
      obtain ⟨⟨x1, x2⟩, ⟨x3, x4⟩, x5, x6⟩ := hl _ hmem
      have hsub := hdd.sub _ hmem
      obtain ⟨sl, hsl⟩ : ∃ sl, (Cof.get l (i : Int)).s = sl := ⟨_, rfl⟩
      have hO := kind_spec (Cof.get l (i : Int)).s 5 x3 x4 (by decide) (by decide)
      have hO1 := Int.emod_nonneg (Cof.get l (i : Int)).s (show (5 : Int) ≠ 0 by decide)
      have hO2 := Int.emod_lt_of_pos (Cof.get l (i : Int)).s (show (0 : Int) < 5 by decide)
      obtain ⟨O, hOe⟩ : ∃ O, (Cof.get l (i : Int)).s % 5 = O := ⟨_, rfl⟩
      rw [hOe] at hO hO1 hO2
      have h76 := Int.lt_tmod_of_pos (Cof.get l (i : Int)).s (show (0 : Int) < 7 by decide)
      have h77 := Int.tmod_lt_of_pos (Cof.get l (i : Int)).s (show (0 : Int) < 7 by decide)
      obtain ⟨T7, hT7⟩ : ∃ T7, (Cof.get l (i : Int)).s.tmod 7 = T7 := ⟨_, rfl⟩
      rw [hT7] at h76 h77
      have h3 := kind_spec (Cof.get l (i : Int)).k 3 x1 x2 (by decide) (by decide)
      have h31 := Int.emod_nonneg (Cof.get l (i : Int)).k (show (3 : Int) ≠ 0 by decide)
      have h32 := Int.emod_lt_of_pos (Cof.get l (i : Int)).k (show (0 : Int) < 3 by decide)
      obtain ⟨K3, hK3⟩ : ∃ K3, (Cof.get l (i : Int)).k % 3 = K3 := ⟨_, rfl⟩
      rw [hK3] at h3 h31 h32
      have hpx := page_spec (Cof.get l (i : Int)).b.A (Cof.get l (i : Int)).b.m (Cof.get l (i : Int)).b.c (Cof.get l (i : Int)).b.xs (by omega)
      repeat' (first | (refine XL_id ?_; first | refine XL_nil ?_ | (refine XG_load ?_; refine XL_elf tt_ok rfl (by assumption) rfl (by omega) (by omega) rfl rfl rfl rfl ?_) | (refine XG_idx ?_; refine XL_idx tt_ok rfl rfl rfl rfl rfl (by assumption) (by omega) (by omega) rfl ?_) | (refine XG_call ?_; refine XL_fn hO rfl rfl (fun _ _ _ => trivial) ?_) | (refine XL_op tt_ok rfl rfl ?_)) | (refine X_id ?_; first | refine X_cutD (c := .region 11 _ _) [0, 1, 2, 7, 9, 10] (fun (b : Bool) => [(52, .bool b)]) (fun _ => [isDk p 5 s]) (fun b => b = decide (O = K)) rfl (hold ?_) (fun b hb => hold ?_) | refine X_seq ?_ | (refine X_regionN (by repeat' (first | exact .nil | apply NL.cons)) ?_) | refine X_skip ?_ | refine X_block ?_ | refine X_cond_t rfl ?_) | (refine Y_id ?_; refine Y_then ?_))
      · intro _
        by_cases hOK : O = K
        · rw [decide_eq_true hOK]
          repeat' (first | (refine XL_id ?_; first | refine XL_nil ?_ | (refine XL_op tt_ok rfl rfl ?_; try (refine XL_dec_t (by omega) ?_))) | (refine X_id ?_; (refine X_regionN (by repeat' (first | exact .nil | apply NL.cons)) ?_)))
          all_goals first
            | exact Y_again true fun _ _ hf hs => ⟨rfl, hf.sub (by (repeat' (first | exact trivial | refine And.intro rfl ?_)); done), hs⟩
            | (exfalso; omega)
            | skip
          
        · rw [decide_eq_false hOK]
          repeat' (first | (refine XL_id ?_; first | refine XL_nil ?_ | (refine XL_op tt_ok rfl rfl ?_; try (refine XL_dec_f (by omega) ?_))) | (refine X_id ?_; (refine X_regionN (by repeat' (first | exact .nil | apply NL.cons)) ?_)))
          all_goals first
            | exact Y_again false fun _ _ hf hs => ⟨rfl, hf.sub (by (repeat' (first | exact trivial | refine And.intro rfl ?_)); done), hs⟩
            | (exfalso; omega)
            | skip
          
      · intro _
        refine Y_then ?_
        repeat' ((refine X_id ?_; refine X_cutD (c := .cond (.tmp 52) _ _) [0, 1, 2, 7, 9] (fun (o : Int) => [(10, .int .i64 o)]) (fun _ => [isDk p 5 s]) (fun o => o ≠ K ∧ -8 ≤ o ∧ o ≤ 8) rfl (hold ?_) (fun o ho => hold ?_)))
        · intro _
          cases b with
          | true =>
            have hOK : O = K := of_decide_eq_true hb.symm
            refine X_cond_t rfl ?_
            by_cases hT : T7 < 0
            · repeat' (first | (refine XL_id ?_; first | refine XL_nil ?_ | (refine XG_load ?_; refine XL_elf tt_ok rfl (by assumption) rfl (by omega) (by omega) rfl rfl rfl rfl ?_) | (refine XG_idx ?_; refine XL_idx tt_ok rfl rfl rfl rfl rfl (by assumption) (by omega) (by omega) rfl ?_) | (refine XL_op tt_ok (opV_rem rfl rfl (by omega)) rfl ?_; refine XL_int hT7 ?_) | (refine XL_op tt_ok rfl rfl ?_; try (first | refine XL_int (wrap_i64 (by omega) (by omega)) ?_ | refine XL_dec_t (by omega) ?_))) | (refine X_id ?_; first | refine X_seq ?_ | (refine X_regionN (by repeat' (first | exact .nil | apply NL.cons)) ?_) | refine X_cond_t rfl ?_) | (refine Y_id ?_; refine Y_then ?_))
              all_goals first
                | exact Y_again (-1) fun _ _ hf hs => ⟨⟨by show (-1 : Int) ≠ K; omega, by decide, by decide⟩, hf.sub (by (repeat' (first | exact trivial | refine And.intro rfl ?_)); done), hs⟩
                | (exfalso; omega)
                | skip
              
            · repeat' (first | (refine XL_id ?_; first | refine XL_nil ?_ | (refine XG_load ?_; refine XL_elf tt_ok rfl (by assumption) rfl (by omega) (by omega) rfl rfl rfl rfl ?_) | (refine XG_idx ?_; refine XL_idx tt_ok rfl rfl rfl rfl rfl (by assumption) (by omega) (by omega) rfl ?_) | (refine XL_op tt_ok (opV_rem rfl rfl (by omega)) rfl ?_; refine XL_int hT7 ?_) | (refine XL_op tt_ok rfl rfl ?_; try (first | refine XL_int (wrap_i64 (by omega) (by omega)) ?_ | refine XL_dec_f (by omega) ?_))) | (refine X_id ?_; first | refine X_seq ?_ | (refine X_regionN (by repeat' (first | exact .nil | apply NL.cons)) ?_) | refine X_skip ?_ | refine X_cond_f rfl ?_) | (refine Y_id ?_; refine Y_then ?_))
              all_goals first
                | exact Y_again (-1 - T7) fun _ _ hf hs => ⟨⟨by show -1 - T7 ≠ K; omega, by show -8 ≤ -1 - T7; omega, by show -1 - T7 ≤ 8; omega⟩, hf.sub (by (repeat' (first | exact trivial | refine And.intro rfl ?_)); done), hs⟩
                | (exfalso; omega)
                | skip
              
          | false =>
            have hOK : ¬ O = K := of_decide_eq_false hb.symm
            refine X_cond_f rfl ?_
            repeat' ((refine X_id ?_; refine X_skip ?_))
            all_goals first
              | exact Y_again O fun _ _ hf hs => ⟨⟨hOK, by show -8 ≤ O; omega, by show O ≤ 8; omega⟩, hf.sub (by (repeat' (first | exact trivial | refine And.intro rfl ?_)); done), hs⟩
              | (exfalso; omega)
              | skip
            
        · intro _
          refine Y_then ?_
          obtain ⟨ho1, ho2, ho3⟩ := ho
          repeat' (first | (refine XL_id ?_; first | refine XL_nil ?_ | (refine XG_load ?_; refine XL_el tt_ok rfl (by assumption) rfl (by omega) (by omega) rfl rfl rfl rfl ?_) | (refine XG_idx ?_; refine XL_idx tt_ok rfl rfl rfl rfl rfl (by assumption) (by omega) (by omega) rfl ?_) | (refine XG_call ?_; refine XL_fn h3 rfl rfl (fun _ _ _ => trivial) ?_) | (refine XL_op tt_ok rfl rfl ?_)) | (refine X_id ?_; first | refine X_cutD (c := .block 2 _) [0, 1, 2, 7, 9] (fun (s' : List (List Int)) => []) (fun s' => [isDk p 5 s']) (fun s' => Cof.get s' K = pg) rfl (hold ?_) (fun s' hs' => hold ?_) | refine X_seq ?_ | (refine X_regionN (by repeat' (first | exact .nil | apply NL.cons)) ?_)) | (refine Y_id ?_; refine Y_then ?_))
          · intro _
            by_cases h30 : K3 = 0
            · subst h30
              have hw := fun (b : Nat) => write_spec p 5 s o (some ⟨b, 0, none⟩) 256 256 (pageF (Cof.get l (i : Int)).b.xs) (fun _ => ⟨b, rfl⟩)
              repeat' (first | (refine XL_id ?_; first | refine XL_nil ?_ | (refine XG_load ?_; refine XL_elf tt_ok rfl (by assumption) rfl (by omega) (by omega) rfl rfl rfl rfl ?_) | (refine XG_idx ?_; refine XL_idx tt_ok rfl rfl rfl rfl rfl (by assumption) (by omega) (by omega) rfl ?_) | (refine XG_call ?_; first | (refine XL_callK [] hpx rfl rfl (fun _ => rfl) (fun g hg hL => hsub.le hg) (fun u L hv => ?_); obtain ⟨b2, rfl, rfl⟩ := hv) | refine XL_callE [1] (hw _) rfl rfl rfl (fun g hg hL => rd_at 0 rfl hL) ?_) | (refine XL_op tt_ok rfl rfl ?_; try (refine XL_dec_t (by omega) ?_))) | (refine X_id ?_; first | refine X_seq ?_ | (refine X_regionN (by repeat' (first | exact .nil | apply NL.cons)) ?_) | refine X_block ?_ | refine X_cond_t rfl ?_) | (refine Y_id ?_; first | refine Y_then ?_ | refine Y_block_normal ?_))
              all_goals first
                | exact Y_again (wrS (5 : Nat) o (pageF (Cof.get l (i : Int)).b.xs) s) fun _ _ hf hs => ⟨by show Cof.get (wrS _ _ _ _) K = pg; rw [wrS_other hok hk1 ho1]; exact hgs, hf.sub (by (repeat' (first | exact trivial | refine And.intro rfl ?_)); done), hs.imp fun g hg => stars_only [0] rfl g hg⟩
                | (exfalso; omega)
                | skip
              
            · by_cases h31 : K3 = 1
              · subst h31
                have hr := read_any p 5 s o
                obtain ⟨E, hE⟩ : ∃ E, rdE (5 : Nat) o s = E := ⟨_, rfl⟩
                rw [hE] at hr
                repeat' (first | (refine XL_id ?_; first | refine XL_nil ?_ | (refine XG_call ?_; (refine XL_callK [0] hr rfl rfl (fun _ => rfl) (fun _ _ _ => trivial) (fun u L hv => ?_); obtain ⟨A2, c2, rfl, rfl⟩ := hv)) | (refine XL_op tt_ok rfl rfl ?_; try (first | refine XL_dec_t (by omega) ?_ | refine XL_dec_f (by omega) ?_))) | (refine X_id ?_; first | refine X_seq ?_ | (refine X_regionN (by repeat' (first | exact .nil | apply NL.cons)) ?_) | refine X_block ?_ | refine X_cond_t rfl ?_ | refine X_cond_f rfl ?_) | (refine Y_id ?_; first | refine Y_then ?_ | refine Y_block_normal ?_))
                all_goals first
                  | exact Y_again s fun _ _ hf hs => ⟨hgs, hf.sub (by (repeat' (first | exact trivial | refine And.intro rfl ?_)); done), hs.imp fun g hg => stars_only [1] rfl g hg⟩
                  | (exfalso; omega)
                  | skip
                
              · obtain rfl : K3 = 2 := by omega
                repeat' (first | (refine XL_id ?_; first | refine XL_nil ?_ | (refine XG_call ?_; refine XL_callE [0] (erase_spec p 5 s o) rfl rfl rfl (fun _ _ _ => trivial) ?_) | (refine XL_op tt_ok rfl rfl ?_; try (refine XL_dec_f (by omega) ?_))) | (refine X_id ?_; first | refine X_seq ?_ | (refine X_regionN (by repeat' (first | exact .nil | apply NL.cons)) ?_) | refine X_block ?_ | refine X_cond_f rfl ?_) | (refine Y_id ?_; first | refine Y_then ?_ | refine Y_block_normal ?_))
                all_goals first
                  | exact Y_again (erS (5 : Nat) o s) fun _ _ hf hs => ⟨by show Cof.get (erS _ _ _) K = pg; rw [erS_other hok hk1 ho1]; exact hgs, hf.sub (by (repeat' (first | exact trivial | refine And.intro rfl ?_)); done), hs.imp fun g hg => stars_only [0] rfl g hg⟩
                  | (exfalso; omega)
                  | skip
                
          · intro _
            refine Y_then ?_
            replace hs' : Cof.get s' K = pg := hs'
            have hr0 : rdE (5 : Nat) K s' = 0 := by unfold rdE; rw [if_pos ⟨hk1, hk2⟩, if_neg (by rw [hs']; exact hne)]
            have hr := read_ok p 5 s' K hr0
            rw [hs'] at hr
            repeat' (first | (refine XL_id ?_; first | refine XL_nil ?_ | refine XL_guard_yes rfl rfl rfl ?_ | (refine XG_call ?_; first | (refine XL_callK [0] hr rfl rfl (fun _ => rfl) (fun _ _ _ => trivial) (fun u L hv => ?_); obtain ⟨b3, rfl, rfl⟩ := hv) | (refine XL_callK [] hpb rfl rfl (fun _ => rfl) (fun g hg hL => rb.le hg) (fun u L hv => ?_); obtain ⟨b4, rfl, rfl⟩ := hv) | refine XL_fn (eqB_same _ _ _ _ _ _ pg (by omega) (by omega)) rfl rfl (fun g hg hL => ⟨rd_at 1 rfl hL, rd_at 0 rfl hL⟩) ?_) | (refine XL_op tt_ok rfl rfl ?_; try (first | refine XL_int (wrap_i64 (by omega) (by omega)) ?_ | refine XL_dec_f (by omega) ?_))) | (refine X_id ?_; first | refine X_seq ?_ | (refine X_regionN (by repeat' (first | exact .nil | apply NL.cons)) ?_) | refine X_skip ?_ | refine X_cond_f rfl ?_) | (refine Y_id ?_; first | refine Y_then ?_ | refine Y_block_normal ?_))
            all_goals first
              | exact Y_again (i + 1, s') fun _ _ hf hs => ⟨⟨hlt, hs'⟩, by show m - (i + 1) < m - i; omega, hf.sub (by (repeat' (first | exact trivial | refine And.intro rfl ?_)); done), hs.imp fun g hg => stars_only [2] rfl g hg⟩
              | (exfalso; omega)
              | skip
            
    | false =>
      have hr0 : rdE (5 : Nat) K s = 0 := by unfold rdE; rw [if_pos ⟨hk1, hk2⟩, if_neg (by rw [hgs]; exact hne)]
      have her := erase_spec p 5 s K
      have hes : erS (5 : Nat) K s = s.set K.toNat [] := if_pos hr0
      rw [hr0, hes] at her
      have hg2 : Cof.get (s.set K.toNat []) K = [] := by rw [getI_set hk1 (by rw [hok.len]; exact hk2) hk1, if_pos rfl]
      obtain ⟨s2, hs2⟩ : ∃ s2, s.set K.toNat [] = s2 := ⟨_, rfl⟩
      rw [hs2] at her hg2
      have hr2 : rdE (5 : Nat) K s2 = 60 := by unfold rdE; rw [if_pos ⟨hk1, hk2⟩, if_pos hg2]
      have hr := read_no p 5 s2 K (by rw [hr2]; decide)
      have her2 := erase_spec p 5 s2 K
      rw [hr2] at hr her2
      repeat' (first | (refine XL_id ?_; first | refine XL_nil ?_ | refine XL_guard_yes rfl rfl rfl ?_ | (refine XG_call ?_; first | refine XL_callE [0] her rfl rfl rfl (fun _ _ _ => trivial) ?_ | refine XL_callE [0] hr rfl rfl rfl (fun _ _ _ => trivial) ?_ | refine XL_callE [0] her2 rfl rfl rfl (fun _ _ _ => trivial) ?_) | (refine XL_op tt_ok rfl rfl ?_; try (refine XL_dec_t (by omega) ?_))) | (refine X_id ?_; first | refine X_seq ?_ | (refine X_regionN (by repeat' (first | exact .nil | apply NL.cons)) ?_) | refine X_ret ?_ | refine X_exit ?_ | refine X_cond_f rfl ?_) | (refine Y_id ?_; first | refine Y_then ?_ | refine Y_then_exit ?_ | refine Y_block_hit ?_))
      all_goals first
        | exact Y_fn1 rfl rfl rfl
        | (exfalso; omega)
        | skip
      
end Go.Proofs.Ytmegelkbipgjbaa
