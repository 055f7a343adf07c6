/- The law SpacePlays, walked. -/
import Derived.Test.YtalkcemelegohaaLd
import Derived.Test.YtalkcemelegohaaLb
set_option linter.unusedVariables false
set_option maxRecDepth 100000
namespace Go.Proofs.Ytalkcemelegohaa
open Go.RowKit Go.Cof
open Vm (Rg encRg rgV)

structure Ask where
  k : Int
  p : Int
  n : Int
  q : Int
deriving Inhabited
def encAsk : Enc Ask := ⟨fun x => [iV x.k, iV x.p, iV x.n, bV x.q], 4, fun _ => rfl, by decide, fun x u hu => by simp at hu; rcases hu with rfl | rfl | rfl | rfl <;> rfl⟩
structure Ask.In (x : Ask) : Prop where
  k : -9223372036854775808 ≤ x.k ∧ x.k ≤ 9223372036854775807
  p : -9223372036854775808 ≤ x.p ∧ x.p ≤ 9223372036854775807
  n : -9223372036854775808 ≤ x.n ∧ x.n ≤ 9223372036854775807
  q : 0 ≤ x.q ∧ x.q < 256
/-- A list that is one's own, or was handed in. -/
def spR (F : Frz) (A : Option Addr) (m c : Nat) (l : List Rg) : HProp := fun h => own encRg A m c l h ∨ rdS encRg F.heap A m l
theorem spR_rd {F : Frz} {L : List HProp} {A : Option Addr} {m c : Nat} {l : List Rg} (k : Nat) (hk : L[k]? = some (spR F A m c l)) {g : Hp} (hg : Hp.le F.heap g) (h : stars L g) : rdS encRg g A m l :=
  let ⟨_, hl, hb⟩ := at_mem k hk h
  hb.elim (fun o => (own_rd o).le hl) (fun r => r.le hg)
structure Sv where
  A : Option Addr
  m : Nat
  c : Nat
  l : List Rg
  h : Int
structure Sv.Ok (s : Sv) : Prop where
  len : s.m = s.l.length
  m : s.m ≤ 5864062014634
  le : s.m ≤ s.c
  all : ∀ r ∈ s.l, r.In
structure An where
  b : Nat
  A : Option Addr
  m : Nat
  c : Nat
set_option maxHeartbeats 32000000 in
theorem spacePlays_walk (A : Option Addr) (m c : Nat) (l : List Rg) (h : Int) (A' : Option Addr) (m' c' : Nat) (xs : List Ask) (hm : m ≤ 5864062014634) (hmc : m ≤ c) (hl : ∀ r ∈ l, r.In) (hm' : m' ≤ 9223372036854775807) (hx : ∀ x ∈ xs, x.In) :
    FnC Try.prog 4 [.agg #[.slice A m c, iV h], .slice A' m' c'] (fun g => rdS encRg g A m l ∧ rdS encAsk g A' m' xs) (.bool true) := by
  have hc1 := scheck_spec A m c l h (by omega) hl
  have hc2 := qcheck_spec A m c l h (by omega) hl
  refine Ctr.intro Try.func4 rfl rfl (by decide +kernel) fun F hpre => ?_
  have r1 : rdS encRg F.heap A m l := hpre.1
  have r2 : rdS encAsk F.heap A' m' xs := hpre.2
  have hlen := r1.1
  have hlen2 := r2.1
  refine X_mem (fun _ hs => stars_new (show spR F A m c l _ from .inr r1) hs) ?_
  repeat' (first | (refine XL_id ?_; first | refine XL_nil ?_ | (refine XG_box ?_; (refine XL_box rfl (fun _ => rfl) (fun b2 => ?_); refine XL_nB (by repeat' (first | exact .nil | apply NL.cons)) ?_)) | (refine XG_call ?_; first | refine XL_fn hc1 rfl rfl (fun g hg _ => r1.le (hFG.trans hg)) ?_ | refine XL_fn hc2 rfl rfl (fun g hg _ => r1.le (hFG.trans hg)) ?_) | (refine XL_op tt_ok rfl rfl ?_)) | (refine XD_id ?_; first | (refine XD_thaw thaw ?_; refine XD_nil ?_) | (refine XD_id ?_; (first | (refine XD_uL rfl ?_; refine XD_s rfl rfl rfl (XV_loadW tt_ok rfl (blk_at 0 rfl hM) rfl rfl rfl) rfl ?_) | (refine XD_u rfl rfl ?_; refine XD_s rfl rfl rfl (XV_op tt_ok rfl) rfl ?_)); try (refine XD_dec_f (by omega) ?_)) | refine XD_m rfl rfl ?_) | (refine X_id ?_; first | (refine X_drawS (id := 1) [0, 2, 1, 3, 4] (fun | 1 => .m | 3 => .m | _ => .s) 8 (by repeat' (first | exact Split.nil | apply Split.blk | apply Split.keep)) mixed (by decide +kernel) ?_; intro G hFG hM thaw; show XD _ _ _ _ _ _ [0, 2, 1, 3, 4] _ _ _) | refine X_seq ?_ | (refine X_regionN (by repeat' (first | exact .nil | apply NL.cons)) ?_) | refine X_skip ?_ | refine X_block ?_ | refine X_cond_f rfl ?_) | (refine Y_id ?_; first | refine Y_then ?_ | refine Y_m ?_))
  all_goals first
    | (rename_i h9; exact absurd rfl h9)
    | skip
  refine X_loopD2 [1, 2] (fun (i : Nat) (s : Sv) => [(5, .int .i64 i)]) (fun i s => [spR F s.A s.m s.c s.l, blk b2 [.slice s.A s.m s.c, iV s.h] 24]) (fun i s => i ≤ m' ∧ s.Ok) (fun i s => m' - i) 0 ⟨A, m, c, l, h⟩ rfl ⟨Nat.zero_le _, ⟨hlen, hm, hmc, hl⟩⟩ (by (repeat' (first | exact trivial | refine And.intro rfl ?_)); done) (fun h hs => hs) ?_
  intro i s hi
  obtain ⟨hi, hok⟩ := hi
  by_cases hlt : i < m' ∧ i < 60
  · obtain ⟨hlt, h60⟩ := hlt
    obtain ⟨As, ms, cs, ls, h'⟩ := s
    have ok1 := hok.len; have ok2 := hok.m; have ok3 := hok.le; have ok4 := hok.all
    replace ok1 : ms = ls.length := ok1
    replace ok2 : ms ≤ 5864062014634 := ok2
    replace ok3 : ms ≤ cs := ok3
    replace ok4 : ∀ r ∈ ls, r.In := ok4
    have hx8 := hx _ (Vm.get_mem (l := xs) (i := (i : Int)) (by omega) (by omega))
    have hsp := spare_spec As ms cs ls h' (by omega)
    obtain ⟨⟨al, hh, at_, e⟩, hX⟩ : ∃ X, doF ls h' (Cof.get xs (i : Int)).k (Cof.get xs (i : Int)).p (Cof.get xs (i : Int)).n (Cof.get xs (i : Int)).q = X := ⟨_, rfl⟩
    have hg := do_good ls h' (Cof.get xs (i : Int)).k (Cof.get xs (i : Int)).p (Cof.get xs (i : Int)).n (Cof.get xs (i : Int)).q
    rw [hX] at hg
    replace hg : scheck al hh = 0 := hg
    have hgood := sgood_iff.1 hg
    have hal := hgood.fine.len
    have hdn := fun A6 c6 (h6 : ms ≤ c6) => done_spec A6 ms c6 ls h' (Cof.get xs (i : Int)).k (Cof.get xs (i : Int)).p (Cof.get xs (i : Int)).n (Cof.get xs (i : Int)).q (by omega) h6 ok4 hx8.k hx8.p hx8.n hx8.q
    have htd := told_spec As ms cs ls h' (Cof.get xs (i : Int)).k (Cof.get xs (i : Int)).p (Cof.get xs (i : Int)).n (Cof.get xs (i : Int)).q (by omega) ok3 ok4 hx8.k hx8.p hx8.n hx8.q
    rw [hX] at htd
    simp only [hX] at hdn
    have hck := fun A7 c7 => scheck_spec A7 al.length c7 al hh (by omega) (rg_in hgood.fine)
    rw [hg] at hck
    repeat' (first | (refine XL_id ?_; first | refine XL_nil ?_ | refine XL_guard_yes rfl rfl rfl ?_ | (refine XG_load ?_; refine XL_loadW tt_ok 1 rfl rfl rfl rfl rfl rfl ?_) | (refine XG_call ?_; first | (refine XL_op tt_ok rfl rfl ?_) | (refine XL_callK [] hsp rfl rfl (fun _ => rfl) (fun g hg hL => by exact spR_rd 0 rfl hg hL) (fun u L hv => ?_); obtain ⟨A6, c6, rfl, hc6, rfl⟩ := hv)) | (refine XG_alloc ?_; (refine XL_alloc tt_ok rfl rfl (fun _ => rfl) (fun b6 => ?_); refine XL_nB (by repeat' (first | exact .nil | apply NL.cons)) ?_)) | (refine XG_store ?_; (refine XL_storeW tt_ok 0 rfl rfl rfl rfl rfl rfl rfl ?_; refine XL_nK 0 rfl (by repeat' (first | exact .nil | apply NL.cons)) ?_)) | (refine XL_op tt_ok rfl rfl ?_; try (refine XL_dec_t (by omega) ?_))) | (refine X_id ?_; first | refine X_cutD (c := .region 7 _ _) [1, 2, 5, 6] (fun (j : An) => [(7, .pointer (some ⟨j.b, 0, none⟩)), (8, iV at_), (9, iV e)]) (fun j => [blk j.b [.slice j.A j.m j.c, iV hh] 24, own encRg j.A j.m j.c al, blk b6 [.slice A6 ms c6, iV h'] 24, own encRg A6 (ms + 5) c6 (ls ++ marks), spR F As ms cs ls, blk b2 [.slice As ms cs, iV h'] 24]) (fun j => j.m = al.length ∧ j.m ≤ j.c) rfl (hold ?_) (fun j hj => hold ?_) | refine X_seq ?_ | (refine X_regionN (by repeat' (first | exact .nil | apply NL.cons)) ?_) | refine X_skip ?_ | refine X_block ?_ | refine X_cond_t rfl ?_) | (refine Y_id ?_; refine Y_then ?_))
    · intro _
      repeat' (first | (refine XL_id ?_; first | refine XL_nil ?_ | (refine XG_call ?_; (refine XL_callK [] (hdn A6 c6 (by omega)) rfl rfl (fun _ => rfl) (fun g hg hL => by first | exact spare_rd ok1 0 rfl hL | exact spare_rd ok1 1 rfl hL) (fun u L hv => ?_); obtain ⟨A7, m7, c7, hm7, rfl, rfl⟩ := MRes.ex hv; refine XL_fact 0 rfl (fun _ o => own_len o) fun hown => ?_)) | (refine XG_alloc ?_; (refine XL_alloc tt_ok rfl rfl (fun _ => rfl) (fun b7 => ?_); refine XL_nB (by repeat' (first | exact .nil | apply NL.cons)) ?_)) | (refine XG_store ?_; first | (refine XL_storeW tt_ok 0 rfl rfl rfl rfl rfl rfl rfl ?_; refine XL_nK 0 rfl (by repeat' (first | exact .nil | apply NL.cons)) ?_) | (refine XL_storeW tt_ok 1 rfl rfl rfl rfl rfl rfl rfl ?_; refine XL_nK 1 rfl (by repeat' (first | exact .nil | apply NL.cons)) ?_))) | (refine XD_id ?_; first | (refine XD_thaw thaw ?_; refine XD_nil ?_) | (refine XD_id ?_; (first | (refine XD_uL rfl ?_; first | refine XD_s rfl rfl rfl (XV_loadW tt_ok rfl (blk_at 0 rfl hM) rfl rfl rfl) rfl ?_ | refine XD_s rfl rfl rfl (XV_elW tt_ok rfl (rdS.le (by assumption) hFG) rfl (by omega) (by omega) rfl rfl rfl) rfl ?_) | (refine XD_uI rfl ?_; refine XD_s rfl rfl rfl (XV_idx tt_ok rfl rfl rfl rfl rfl (rdS.le (by assumption) hFG) (by omega) (by omega)) rfl ?_) | (refine XD_u rfl rfl ?_; refine XD_s rfl rfl rfl (XV_op tt_ok rfl) rfl ?_))) | refine XD_m rfl rfl ?_) | (refine X_id ?_; (refine X_drawW (id := 7) ⟨[0, 1, 2, 3, 4], 5, [6, 7, 8, 9, 10, 11, 12, 13]⟩ ⟨[0, 1, 2, 3, 4], 10, [5, 6, 7, 8, 9, 11, 12, 13]⟩ (fun | 5 => .m | 10 => .m | 11 => .m | _ => .s) 8 (by repeat' (first | exact Split.nil | apply Split.blk | apply Split.keep)) mixed (by decide +kernel) ?_ ?_ <;> (intro G hFG hM thaw; (first | show XD _ _ _ _ _ _ [0, 1, 2, 3, 4, 5, 6, 7, 8, 9, 10, 11, 12, 13] _ _ _ | show XD _ _ _ _ _ _ [0, 1, 2, 3, 4, 10, 5, 6, 7, 8, 9, 11, 12, 13] _ _ _)))) | (refine Y_id ?_; refine Y_m ?_))
      all_goals first
        | exact Y_again ⟨b7, A7, m7, c7⟩ fun _ _ hf hs => ⟨⟨hm7, hown.2.1⟩, hf.sub (by (repeat' (first | exact trivial | refine And.intro rfl ?_)); done), hs.imp fun h hs => stars_only [0, 0, 2, 0, 0, 0] rfl h hs⟩
        | exact Y_again ⟨b7, A7, m7, c7⟩ fun _ _ hf hs => ⟨⟨hm7, hown.2.1⟩, hf.sub (by (repeat' (first | exact trivial | refine And.intro rfl ?_)); done), hs.imp fun h hs => stars_only [1, 0, 2, 0, 0, 0] rfl h hs⟩
        | skip
      
    · intro _
      refine Y_then ?_
      obtain ⟨b7, A7, m7, c7⟩ := j; dsimp only
      obtain ⟨hm7, hc7⟩ := hj
      replace hm7 : m7 = al.length := hm7
      replace hc7 : m7 ≤ c7 := hc7
      repeat' ((refine X_id ?_; first | refine X_cutD (c := .region 8 _ _) [1, 2, 5, 6, 7, 8, 9] (fun (j : An) => [(10, .pointer (some ⟨j.b, 0, none⟩)), (11, iV at_), (12, iV e)]) (fun j => [blk j.b [.slice j.A j.m j.c, iV hh] 24, own encRg j.A j.m j.c al, blk b7 [.slice A7 m7 c7, iV hh] 24, own encRg A7 m7 c7 al, blk b6 [.slice A6 ms c6, iV h'] 24, own encRg A6 (ms + 5) c6 (ls ++ marks), spR F As ms cs ls, blk b2 [.slice As ms cs, iV h'] 24]) (fun j => j.m = al.length ∧ j.m ≤ j.c) rfl (hold ?_) (fun j hj => hold ?_) | refine X_seq ?_))
      · intro _
        repeat' (first | (refine XL_id ?_; first | refine XL_nil ?_ | (refine XG_call ?_; (refine XL_callK [] htd rfl rfl (fun _ => rfl) (fun g hg hL => by first | exact spR_rd 2 rfl (Hp.le.trans (by exact hFG) hg) hL | exact spR_rd 3 rfl (Hp.le.trans (by exact hFG) hg) hL) (fun u L hv => ?_); obtain ⟨A8, m8, c8, hm8, rfl, rfl⟩ := MRes.ex hv; refine XL_fact 0 rfl (fun _ o => own_len o) fun hown => ?_)) | (refine XG_alloc ?_; (refine XL_alloc tt_ok rfl rfl (fun _ => rfl) (fun b8 => ?_); refine XL_nB (by repeat' (first | exact .nil | apply NL.cons)) ?_)) | (refine XG_store ?_; first | (refine XL_storeW tt_ok 0 rfl rfl rfl rfl rfl rfl rfl ?_; refine XL_nK 0 rfl (by repeat' (first | exact .nil | apply NL.cons)) ?_) | (refine XL_storeW tt_ok 1 rfl rfl rfl rfl rfl rfl rfl ?_; refine XL_nK 1 rfl (by repeat' (first | exact .nil | apply NL.cons)) ?_))) | (refine XD_id ?_; first | (refine XD_thaw thaw ?_; refine XD_nil ?_) | (refine XD_id ?_; (first | (refine XD_uL rfl ?_; first | refine XD_s rfl rfl rfl (XV_loadW tt_ok rfl (blk_at 2 rfl hM) rfl rfl rfl) rfl ?_ | refine XD_s rfl rfl rfl (XV_elW tt_ok rfl (rdS.le (by assumption) hFG) rfl (by omega) (by omega) rfl rfl rfl) rfl ?_) | (refine XD_uI rfl ?_; refine XD_s rfl rfl rfl (XV_idx tt_ok rfl rfl rfl rfl rfl (rdS.le (by assumption) hFG) (by omega) (by omega)) rfl ?_) | (refine XD_u rfl rfl ?_; refine XD_s rfl rfl rfl (XV_op tt_ok rfl) rfl ?_))) | refine XD_m rfl rfl ?_) | (refine X_id ?_; (refine X_drawW (id := 8) ⟨[0, 1, 2, 3, 4], 5, [6, 7, 8, 9, 10, 11, 12, 13]⟩ ⟨[0, 1, 2, 3, 4], 10, [5, 6, 7, 8, 9, 11, 12, 13]⟩ (fun | 5 => .m | 10 => .m | 11 => .m | _ => .s) 8 (by repeat' (first | exact Split.nil | apply Split.blk | apply Split.keep)) mixed (by decide +kernel) ?_ ?_ <;> (intro G hFG hM thaw; (first | show XD _ _ _ _ _ _ [0, 1, 2, 3, 4, 5, 6, 7, 8, 9, 10, 11, 12, 13] _ _ _ | show XD _ _ _ _ _ _ [0, 1, 2, 3, 4, 10, 5, 6, 7, 8, 9, 11, 12, 13] _ _ _)))) | (refine Y_id ?_; refine Y_m ?_))
        all_goals first
          | exact Y_again ⟨b8, A8, m8, c8⟩ fun _ _ hf hs => ⟨⟨hm8, hown.2.1⟩, hf.sub (by (repeat' (first | exact trivial | refine And.intro rfl ?_)); done), hs.imp fun h hs => stars_only [0, 0, 3, 0, 2, 0, 0, 0] rfl h hs⟩
          | exact Y_again ⟨b8, A8, m8, c8⟩ fun _ _ hf hs => ⟨⟨hm8, hown.2.1⟩, hf.sub (by (repeat' (first | exact trivial | refine And.intro rfl ?_)); done), hs.imp fun h hs => stars_only [1, 0, 3, 0, 2, 0, 0, 0] rfl h hs⟩
          | skip
        
      · intro _
        refine Y_then ?_
        obtain ⟨b8, A8, m8, c8⟩ := j; dsimp only
        obtain ⟨hm8, hc8⟩ := hj
        replace hm8 : m8 = al.length := hm8
        replace hc8 : m8 ≤ c8 := hc8
        subst hm7; subst hm8
        repeat' (first | (refine XL_id ?_; first | refine XL_nil ?_ | refine XL_guard_yes rfl rfl rfl ?_ | (refine XG_load ?_; first | refine XL_loadW tt_ok 0 rfl rfl rfl rfl rfl rfl ?_ | refine XL_loadW tt_ok 2 rfl rfl rfl rfl rfl rfl ?_ | refine XL_loadW tt_ok 3 rfl rfl rfl rfl rfl rfl ?_ | refine XL_loadW tt_ok 4 rfl rfl rfl rfl rfl rfl ?_ | refine XL_loadW tt_ok 6 rfl rfl rfl rfl rfl rfl ?_ | refine XL_loadW tt_ok 7 rfl rfl rfl rfl rfl rfl ?_) | (refine XG_call ?_; first | (refine XL_fn (same_spec A7 A8 _ c7 _ c8 al al _ _ (by omega) (by omega)) rfl rfl (fun g hg hL => ⟨rd_at 3 rfl hL, rd_at 1 rfl hL⟩) ?_; refine XL_dec_t ⟨rfl, rfl⟩ ?_) | (refine XL_fn (kept_spec A6 As ms c6 ms cs ls _ _ (by omega) (by omega)) rfl rfl (fun g hg hL => ⟨by first | exact rd_at 5 rfl hL | exact rd_at 4 rfl hL, by first | exact spR_rd 6 rfl hg hL | exact spR_rd 5 rfl hg hL⟩) ?_) | refine XL_fn (hck A8 c8) rfl rfl (fun g hg hL => rd_at 1 rfl hL) ?_ | (refine XL_callK [3] (spoil_spec A7 al.length c7 al hh (by omega)) rfl rfl (fun _ => rfl) (fun _ _ _ => trivial) (fun u L hv => ?_); obtain ⟨rfl, rfl⟩ := hv)) | (refine XG_store ?_; (refine XL_storeW tt_ok 6 rfl rfl rfl rfl rfl rfl rfl ?_; refine XL_nK 6 rfl (by repeat' (first | exact .nil | apply NL.cons)) ?_)) | (refine XL_op tt_ok rfl rfl ?_; try (first | refine XL_int (wrap_i64 (by omega) (by omega)) ?_ | refine XL_dec_f (by omega) ?_ | refine XL_dec (fun _ => ?_) (fun _ => ?_)))) | (refine X_id ?_; first | refine X_seq ?_ | (refine X_regionN (by repeat' (first | exact .nil | apply NL.cons)) ?_) | refine X_skip ?_ | refine X_cond_t rfl ?_ | refine X_cond_f rfl ?_) | (refine Y_id ?_; first | refine Y_then ?_ | refine Y_block_normal ?_))
        all_goals first
          | exact Y_again (i + 1, ⟨A8, al.length, c8, al, hh⟩) fun _ _ hf hs => ⟨⟨by show i + 1 ≤ m'; omega, ⟨rfl, by show al.length ≤ _; omega, hc8, rg_in hgood.fine⟩⟩, by show m' - (i + 1) < m' - i; omega, hf.sub (by (repeat' (first | exact trivial | refine And.intro rfl ?_)); done), hs.imp fun h hs => by
              have hs := stars_conv (B := spR F A8 al.length c8 al) (k := 1) rfl (fun h o => .inl o) hs
              exact stars_only [1, 5] rfl h hs⟩
          | exact Y_again (i + 1, ⟨As, ms, cs, ls, h'⟩) fun _ _ hf hs => ⟨⟨by show i + 1 ≤ m'; omega, ⟨ok1, ok2, ok3, ok4⟩⟩, by show m' - (i + 1) < m' - i; omega, hf.sub (by (repeat' (first | exact trivial | refine And.intro rfl ?_)); done), hs.imp fun h hs => stars_only [5, 5] rfl h hs⟩
          | (rename_i h9; exact absurd rfl h9)
          | skip
        
  · repeat' (first | (refine XL_id ?_; first | refine XL_nil ?_ | refine XL_guard_yes rfl rfl rfl ?_ | refine XL_guard_no rfl rfl rfl rfl rfl ?_ | (refine XG_call ?_; first | (refine XL_op tt_ok rfl rfl ?_) | refine XL_fn works_spec rfl rfl (fun _ _ _ => trivial) ?_) | (refine XL_op tt_ok rfl rfl ?_; try (first | refine XL_dec_f (by omega) ?_ | refine XL_dec (fun _ => ?_) (fun _ => ?_)))) | (refine X_id ?_; first | refine X_seq ?_ | (refine X_regionN (by repeat' (first | exact .nil | apply NL.cons)) ?_) | refine X_ret ?_ | refine X_exit ?_ | refine X_cond_f rfl ?_) | (refine Y_id ?_; first | refine Y_then ?_ | refine Y_then_exit ?_ | refine Y_block_hit ?_))
    all_goals first
      | exact Y_fn1 rfl rfl rfl
      | (exfalso; omega)
      | skip
    
end Go.Proofs.Ytalkcemelegohaa
