/- BuddyPlays: every answer of all calls, and what is free. -/
import Derived.Test.YtkcpjgdmfjhlkaaLb
set_option linter.unusedVariables false
namespace Go.Proofs.Ytkcpjgdmfjhlkaa
open Go.RowKit Go.Cof

abbrev i64R (x : Int) : Prop := -9223372036854775808 ≤ x ∧ x ≤ 9223372036854775807
theorem FnC.keep {P : Program} {f : FuncId} {args : List Value} {r : Value} (h : FnC P f args (fun _ => True) r) (A : List HProp) : Ctr P f args (fun _ => True) A (fun v L => v = r ∧ L = A) :=
  ⟨h.1, fun F w _ hs => (Ctr.call (A := []) (R := A) h (show St F w ([] ++ A) from hs) (fun _ _ _ => trivial)).mono fun e w' ⟨v, L', he, ⟨hv, hL⟩, hs'⟩ => ⟨v, A, he, ⟨hv, rfl⟩, by subst hL; exact hs'⟩⟩
/-- How both stand. -/
structure Bth (n : Nat) (op : List Bool) (tk : Int → Option Int) (tl : List Int) : Prop where
  len : op.length = n
  ok : TkOk op tk
  rl : TlR tl tk n
theorem both_take (p r n : Nat) (op : List Bool) (fs : List (List Int)) (tk : Int → Option Int) (tl : List Int) (o : Int) (hn : n ≤ 4096) (hb : BOk op fs) (h : Bth n op tk tl) :
    ∃ (a e : Int) (op' : List Bool) (tk' : Int → Option Int) (tl' : List Int), Bth n op' tk' tl' ∧ (0 ≤ a ∧ a ≤ 4096) ∧
      Ctr Try.prog 11 [ptr p, iV o] (fun _ => True) [isBd p n fs tk] (fun v L => ∃ gs, BOk op' gs ∧ v = .tuple #[iV a, iV e] ∧ L = [isBd p n gs tk']) ∧
      Ctr Try.prog 12 [ptr r, iV o] (fun _ => True) [isRb r op tl] (fun v L => v = .tuple #[iV a, iV e] ∧ L = [isRb r op' tl']) := by
  have hlen := h.len
  by_cases ho : o < 0 ∨ 6 < o
  · exact ⟨0, 2, op, tk, tl, h, by decide, Ctr.mono (takeBad_spec p n fs tk o ho) (fun _ h => h) fun v L ⟨h1, h2⟩ => ⟨L, ⟨fs, hb, h1, h2⟩, fun _ h => h⟩, FnC.keep (rtakeBad_spec r o ho) _⟩
  · obtain ⟨q, rfl⟩ : ∃ q : Nat, o = q := ⟨o.toNat, by omega⟩
    have hfs := hb.fs
    rcases take_way op q (by omega) with hno | ⟨k, a, h1, h2, h3, h4, h5, h6⟩
    · exact ⟨0, 90, op, tk, tl, h, by decide, Ctr.mono (takeNo_spec p n fs tk q (by omega) (by rw [hfs]; exact hno)) (fun _ h => h) fun v L ⟨h1, h2⟩ => ⟨L, ⟨fs, hb, h1, h2⟩, fun _ h => h⟩, rtakeNo_spec r op tl (lsF op) q (by omega) (by omega) (lsF_pl op) hno⟩
    · obtain ⟨hd, hl, hc⟩ := h6.open h1
      have hp := two_pos q
      have htl := h.rl.set (a := a) (by omega) (some (q : Int))
      refine ⟨a, 0, setN op a (2 ^ q) false, updI tk a (some q), tl.set a (1 + q), ⟨by rw [setN_len]; exact hlen, h.ok.take (by omega) hd hl hc, htl⟩, by omega, takeOk_spec p n op fs tk q k a (by omega) hb h2 h1 (by rw [hfs]; exact h3) (by rw [hfs]; exact h4) (by rw [hfs]; exact h5), rtakeOk_spec r op tl (lsF op) q k a (by omega) (lsF_pl op) h2 h1 h3 h4 h5 hl⟩
theorem both_give (p r n : Nat) (op : List Bool) (fs : List (List Int)) (tk : Int → Option Int) (tl : List Int) (a o : Int) (ha : i64R a) (hn : n ≤ 4096) (hb : BOk op fs) (h : Bth n op tk tl) :
    ∃ (e : Int) (op' : List Bool) (tk' : Int → Option Int) (tl' : List Int), Bth n op' tk' tl' ∧
      Ctr Try.prog 13 [ptr p, iV a, iV o] (fun _ => True) [isBd p n fs tk] (fun v L => ∃ gs, BOk op' gs ∧ v = iV e ∧ L = [isBd p n gs tk']) ∧
      Ctr Try.prog 14 [ptr r, iV a, iV o] (fun _ => True) [isRb r op tl] (fun v L => v = iV e ∧ L = [isRb r op' tl']) := by
  have hlen := h.len
  by_cases ho : o < 0 ∨ 6 < o ∨ a < 0
  · exact ⟨2, op, tk, tl, h, Ctr.mono (giveBad_spec p n fs tk a o ho) (fun _ h => h) fun v L ⟨h1, h2⟩ => ⟨L, ⟨fs, hb, h1, h2⟩, fun _ h => h⟩, FnC.keep (rgiveBad_spec r a o ho) _⟩
  · by_cases ht : tk a = some o
    · obtain ⟨b, k, rfl, rfl, hk⟩ := h.ok.blk _ _ ht
      have hp := two_pos k
      have hle := hk.le
      have htl := h.rl.set (a := b) (by omega) none
      have hg := h.rl.get b (by omega)
      rw [ht] at hg
      exact ⟨0, setN op b (2 ^ k) true, updI tk b none, tl.set b 0, ⟨by rw [setN_len]; exact hlen, h.ok.give ht, htl⟩, giveOk_spec p n op fs tk k b (by omega) hb hk.k6 hk.dv hk.le hk.cl ht, rgiveOk_spec r op tl b k (by omega) hk.k6 hk.le hg⟩
    · refine ⟨91, op, tk, tl, h, Ctr.mono (giveNo_spec p n fs tk a o (by omega) ⟨by omega, ha.2⟩ ht) (fun _ h => h) fun v L ⟨h1, h2⟩ => ⟨L, ⟨fs, hb, h1, h2⟩, fun _ h => h⟩, rgiveNo_spec r op tl a o (by omega) (by omega) ⟨by omega, ha.2⟩ fun hl => ?_⟩
      obtain ⟨b, rfl⟩ : ∃ b : Nat, a = b := ⟨a.toNat, by omega⟩
      rw [h.rl.get b (by omega)]
      cases e : tk (b : Int) with
      | none => show (0 : Int) ≠ 1 + o; omega
      | some q =>
        intro h9
        have h9 : 1 + q = 1 + o := h9
        exact ht (by rw [e, show q = o by omega])
structure Do3 where
  k : Int
  a : Int
  o : Int
instance : Inhabited Do3 := ⟨⟨0, 0, 0⟩⟩
def encDo : Enc Do3 := ⟨fun x => [iV x.k, iV x.a, iV x.o], 3, fun _ => rfl, by decide, fun x u hu => by simp at hu; rcases hu with rfl | rfl | rfl <;> rfl⟩
structure Do3.In (x : Do3) : Prop where
  k : i64R x.k
  a : i64R x.a
  o : i64R x.o
structure Pst where
  i : Nat
  op : List Bool
  fs : List (List Int)
  tk : Int → Option Int
  tl : List Int
  A : Option Addr
  m : Nat
  c : Nat
  hs : List Hb
structure Pst.Ok (s : Pst) (n : Nat) : Prop where
  b : BOk s.op s.fs
  t : Bth n s.op s.tk s.tl
  h : ∀ x ∈ s.hs, i64R x.1 ∧ i64R x.2
abbrev plM (p r n : Nat) (s : Pst) : List HProp := [isBd p n s.fs s.tk, isRb r s.op s.tl, own encH s.A s.m s.c s.hs]
theorem XV_idxa {P : Program} {T : Tab} {G : Frz} {n : Nat} {e : Env} {d : Option Tmp} {ty : TypeId} {pos : String} {af : Array Edge} (hT : TabOk P T) {t el : TypeId} {i1 : TI} {de2 : TypeDesc} {z2 : Option Value} {sz2 by2 : Nat} {x ix : Operand} {a : Addr} {m : Nat} {k : IntKind} {i : Int} (hx : ev e x = some (.pointer (some a))) (hi : ev e ix = some (.int k i)) (ht : Cof.look T t = some i1) (hd : i1.desc = .array m el) (he : Cof.look T el = some ⟨de2, z2, sz2, by2⟩)
    (h0 : 0 ≤ i) (h1 : i < m) : XV P G n ⟨d, .indexAddr t x ix, ty, pos, af, none⟩ e (.pointer (some (a.add (i.toNat * sz2)))) := .mk fun ac w hf hs => by
    have hu := hT.und t i1 ht
    rw [hd] at hu
    have hr : (Instr.indexAt t (.pointer (some a)) (.int k i)).run P w = .ok (.pointer (some (a.add (i.toNat * sz2)))) w := by
      simp [Instr.indexAt, run_underlying hu, asIntOf, h0, h1, Cof.run_sizeOf hT w he, Instr.sureAddr]
    simp [execOp, hf.ev hx, hf.ev hi, hr]
theorem X_condB {P : Program} {F : Frz} {n : Nat} {Q : Exit → Act → World → Prop} {e : Env} {L : List HProp} {x : Operand} {c d : Code} {b : Bool} (hx : ev e x = some (.bool b)) (h1 : b = true → X P F n c Q e L) (h2 : b = false → X P F n d Q e L) : X P F n (.cond x c d) Q e L := by
  cases b with
  | true => exact X_cond_t hx (h1 rfl)
  | false => exact X_cond_f hx (h2 rfl)
set_option maxRecDepth 100000 in
set_option maxHeartbeats 16000000 in
theorem buddyPlays_walk (n : Int) (A : Option Addr) (m c : Nat) (l : List Do3) (hl : ∀ x ∈ l, x.In) (hm : m ≤ 9223372036854775807) : FnC Try.prog 3 [iV n, .slice A m c] (fun h => rdS encDo h A m l) (.bool true) := by
  refine Ctr.intro Try.func3 rfl rfl (by decide +kernel) fun F hpre => ?_
  have rl : rdS encDo F.heap A m l := hpre
  have hll := rl.1
  by_cases hnn : n < 0 ∨ 4096 < n
  · have h1 := new_bad n hnn
    have h2 := rnew_bad n hnn
    repeat' (first | (refine XL_id ?_; first | refine XL_nil ?_ | refine XL_guard_yes rfl rfl rfl ?_ | (refine XG_call ?_; first | refine XL_fn h1 rfl rfl (fun _ _ _ => trivial) ?_ | refine XL_fn h2 rfl rfl (fun _ _ _ => trivial) ?_ | refine XL_fn awake_spec rfl rfl (fun _ _ _ => trivial) ?_) | (refine XL_op tt_ok rfl rfl ?_; try (first | refine XL_dec_t (by omega) ?_ | refine XL_dec_f (by omega) ?_))) | (refine X_id ?_; first | refine X_seq ?_ | (refine X_regionN (by repeat' (exact .nil)) ?_) | refine X_skip ?_ | refine X_ret ?_ | refine X_cond_t rfl ?_ | refine X_cond_f rfl ?_) | (refine Y_id ?_; first | refine Y_then ?_ | refine Y_then_ret ?_))
    all_goals first
      | exact Y_fn1 rfl rfl rfl
      | skip
    
  · obtain ⟨N, rfl⟩ : ∃ N : Nat, n = N := ⟨n.toNat, by omega⟩
    have hN : N ≤ 4096 := by omega
    repeat' (first | (refine XL_id ?_; first | refine XL_nil ?_ | refine XL_guard_yes rfl rfl rfl ?_ | (refine XG_call ?_; first | (refine XL_callK [] (new_spec N hN) rfl rfl (fun _ => rfl) (fun _ _ _ => trivial) (fun u L hv => ?_); obtain ⟨p, f0, hb0, rfl, rfl⟩ := hv) | (refine XL_callK [] (rnew_spec N hN) rfl rfl (fun _ => rfl) (fun _ _ _ => trivial) (fun u L hv => ?_); obtain ⟨r, rfl, rfl⟩ := hv)) | (refine XL_op tt_ok rfl rfl ?_; try (refine XL_dec_f (by omega) ?_))) | (refine X_id ?_; first | refine X_block (id := 0) (hold ?_) | refine X_seq ?_ | (refine X_regionN (by repeat' (first | exact .nil | apply NL.cons)) ?_) | refine X_skip ?_ | refine X_cond_f rfl ?_) | (refine Y_id ?_; refine Y_then ?_))
    intro _
    refine X_loopD [0, 1, 5, 7] (fun (s : Pst) => [(10, .int .i64 s.i), (9, .slice s.A s.m s.c)]) (fun s => plM p r N s) (fun s => s.Ok N ∧ s.i ≤ m ∧ s.m ≤ s.i) (fun s => m - s.i) ⟨0, allO N, f0, fun _ => none, List.replicate N 0, none, 0, 0, []⟩ rfl ⟨⟨hb0, ⟨List.length_replicate, TkOk.nil, TlR.nil N⟩, fun x hx => by cases hx⟩, Nat.zero_le _, Nat.le_refl _⟩ (by (repeat' (first | exact trivial | refine And.intro rfl ?_)); done) (fun h hs => stars_take [2, 1] rfl (stars_new (own_nil encH _) hs)) ?_
    intro s hs
    obtain ⟨⟨hb, hbt, hhr⟩, hi, hmi⟩ := hs
    have hlen := hbt.len
    have happ : ∀ a o : Int, 0 ≤ a ∧ a ≤ 4096 → i64R o → ∀ x ∈ s.hs ++ [(a, o)], i64R x.1 ∧ i64R x.2 := fun a o ha ho x hx => by
      rcases List.mem_append.1 hx with hx | hx
      · exact hhr x hx
      · obtain rfl := List.mem_singleton.1 hx
        exact ⟨by show i64R a; omega, ho⟩
    by_cases hlt : s.i < m ∧ s.i < 200
    · obtain ⟨hxk, hxa, hxo⟩ := hl _ (get_mem' (l := l) (i := (s.i : Int)) (by omega) (by omega))
      have hwi := within_spec (Cof.get l (s.i : Int)).k 3 hxk.1 hxk.2 (by omega) (by omega)
      obtain ⟨K3, hK3⟩ : ∃ K3, (Cof.get l (s.i : Int)).k % 3 = K3 := ⟨_, rfl⟩
      rw [hK3] at hwi
      by_cases hk0 : K3 = 0
      · obtain ⟨a, e, op', tk', tl', hbt', ha, hT, hR⟩ := both_take p r N s.op s.fs s.tk s.tl (Cof.get l (s.i : Int)).o hN hb hbt
        repeat' (first | (refine XL_id ?_; first | refine XL_nil ?_ | refine XL_guard_yes rfl rfl rfl ?_ | (refine XG_load ?_; first | refine XL_load tt_ok 0 rfl rfl rfl rfl rfl rfl ?_ | refine XL_load tt_ok 1 rfl rfl rfl rfl rfl rfl ?_ | refine XL_load tt_ok 2 rfl rfl rfl rfl rfl rfl ?_ | refine XL_elW tt_ok rfl (by assumption) rfl (by omega) (by omega) rfl rfl rfl rfl ?_) | (refine XG_idx ?_; refine XL_idx tt_ok rfl rfl rfl rfl rfl (by assumption) (by omega) (by omega) rfl ?_) | (refine XG_build ?_; refine XL_buildA tt_ok rfl rfl rfl rfl rfl rfl rfl ?_) | (refine XG_call ?_; first | (refine XL_op tt_ok rfl rfl ?_) | refine XL_fn hwi rfl rfl (fun _ _ _ => trivial) ?_ | (refine XL_callK [1] hT rfl rfl (fun _ => rfl) (fun _ _ _ => trivial) (fun u L hv => ?_); obtain ⟨gs, hgs, rfl, rfl⟩ := hv) | (refine XL_callK [2] hR rfl rfl (fun _ => rfl) (fun _ _ _ => trivial) (fun u L hv => ?_); obtain ⟨rfl, rfl⟩ := hv) | (refine XL_app1 (E := encH) tt_ok 4 0 (a, (Cof.get l (s.i : Int)).o) rfl rfl rfl rfl rfl rfl rfl rfl rfl rfl rfl (by show (_ : Nat) * 16 ≤ _; omega) (by omega) (fun _ _ => rfl) (fun A3 c3 => ?_))) | (refine XG_alloc ?_; (refine XL_alloc tt_ok rfl rfl (fun _ => rfl) (fun b => ?_); refine XL_nB (by repeat' (first | exact .nil | apply NL.cons)) ?_)) | (refine XG_lit ?_; (refine XL_lit tt_ok rfl rfl rfl rfl rfl rfl rfl rfl rfl (fun _ => rfl) (fun b => ?_); refine XL_nB (by repeat' (first | exact .nil | apply NL.cons)) ?_)) | (refine XG_store ?_; (refine XL_storeW tt_ok 0 rfl rfl rfl rfl rfl rfl rfl ?_; refine XL_nK 0 rfl (by repeat' (first | exact .nil | apply NL.cons)) ?_)) | (refine XL_op tt_ok rfl rfl ?_; try (first | refine XL_dec_t (by omega) ?_ | refine XL_dec_f (by omega) ?_ | refine XL_dec (fun _ => ?_) (fun _ => ?_)))) | (refine X_id ?_; first | refine X_cutD (c := .cond (.tmp 59) _ _) [0, 1, 5, 7, 10] (fun (s : Pst) => [(9, .slice s.A s.m s.c)]) (fun s => plM p r N s) (fun z => z.Ok N ∧ z.m ≤ s.i + 1) rfl (X_cond_t rfl ?_) (fun z hz => hold ?_) | refine X_seq ?_ | (refine X_regionN (by repeat' (first | exact .nil | apply NL.cons)) ?_) | refine X_skip ?_ | refine X_block ?_ | refine X_cond_t rfl ?_ | refine X_cond_f rfl ?_) | (refine Y_id ?_; refine Y_then ?_))
        · exact Y_again ⟨0, op', gs, tk', tl', _, s.m + 1, _, s.hs ++ [(a, (Cof.get l (s.i : Int)).o)]⟩ fun _ _ hf hs => ⟨⟨⟨hgs, hbt', happ _ _ ha hxo⟩, by show s.m + 1 ≤ s.i + 1; omega⟩, hf.sub (by (repeat' (first | exact trivial | refine And.intro rfl ?_)); done), hs.imp fun g hg => stars_only [2, 1, 2] rfl g hg⟩
        · exact Y_again ⟨0, op', gs, tk', tl', s.A, s.m, s.c, s.hs⟩ fun _ _ hf hs => ⟨⟨⟨hgs, hbt', hhr⟩, by show s.m ≤ s.i + 1; omega⟩, hf.sub (by (repeat' (first | exact trivial | refine And.intro rfl ?_)); done), hs.imp fun g hg => stars_only [1, 0, 1] rfl g hg⟩
        · intro _
          refine Y_then ?_
          obtain ⟨⟨hzb, hzt, hzh⟩, hzm⟩ := hz
          have hzl := hzt.len
          have hfr := free_is p N z.op z.fs z.tk (by omega) hzb
          have hrf := rfree_is r z.op z.tl (by omega)
          have hwh := whole_is p z.op z.fs z.tk (by omega) hzb
          have hrw := rwhole_is r z.op z.tl (by omega)
          have hls := lists_walk p N r z.op z.fs z.tk z.tl (by omega) hzb
          rw [hzl] at hwh hrw
          obtain ⟨B, hB⟩ : ∃ B, decide ((cntB z.op : Int) = N) = B := ⟨_, rfl⟩
          rw [hB] at hwh hrw
          have hBB : (!(B == B)) = false := by cases B <;> rfl
          repeat' (first | (refine XL_id ?_; first | refine XL_head (show Value.bool (!(B == B)) = .bool false from congrArg _ hBB) ?_ | refine XL_nil ?_ | refine XL_guard_yes rfl rfl rfl ?_ | refine XL_guard_no rfl rfl rfl rfl rfl ?_ | (refine XG_call ?_; first | refine XL_callE [0] hfr rfl rfl rfl (fun _ _ _ => trivial) ?_ | refine XL_callE [1] hrf rfl rfl rfl (fun _ _ _ => trivial) ?_ | refine XL_callE [1] hwh rfl rfl rfl (fun _ _ _ => trivial) ?_ | refine XL_callE [1] hrw rfl rfl rfl (fun _ _ _ => trivial) ?_ | refine XL_callE [1, 0] hls rfl rfl rfl (fun _ _ _ => trivial) ?_) | (refine XL_op tt_ok rfl rfl ?_; try (first | refine XL_int (wrap_i64 (by omega) (by omega)) ?_ | refine XL_dec_f (by omega) ?_ | refine XL_dec (fun _ => ?_) (fun _ => ?_)))) | (refine X_id ?_; first | refine X_seq ?_ | (refine X_regionN (by repeat' (first | exact .nil | apply NL.cons)) ?_) | refine X_skip ?_ | refine X_cond_f rfl ?_) | (refine Y_id ?_; first | refine Y_then ?_ | refine Y_block_normal ?_))
          all_goals first
            | exact Y_again ⟨s.i + 1, z.op, z.fs, z.tk, z.tl, z.A, z.m, z.c, z.hs⟩ fun _ _ hf hs => ⟨⟨⟨hzb, hzt, hzh⟩, by show s.i + 1 ≤ m; omega, hzm⟩, by show m - (s.i + 1) < m - s.i; omega, hf.sub (by (repeat' (first | exact trivial | refine And.intro rfl ?_)); done), hs.imp fun g hg => by first | exact stars_only [0, 0, 0] rfl g hg | exact stars_only [1, 0, 0] rfl g hg⟩
            | (exfalso; omega)
            | skip
          
      · by_cases hk2 : K3 = 2 ∧ 0 < s.m
        · have hm0 := Int.emod_nonneg (Cof.get l (s.i : Int)).a (show (s.m : Int) ≠ 0 by omega)
          have hm1 := Int.emod_lt_of_pos (Cof.get l (s.i : Int)).a (show 0 < (s.m : Int) by omega)
          have hw2 := within_spec (Cof.get l (s.i : Int)).a (s.m : Int) hxa.1 hxa.2 (by omega) (by omega)
          obtain ⟨q, hq⟩ : ∃ q : Nat, (Cof.get l (s.i : Int)).a % (s.m : Int) = q := ⟨((Cof.get l (s.i : Int)).a % (s.m : Int)).toNat, by omega⟩
          rw [hq] at hw2 hm1
          refine X_fact 2 rfl (fun _ o => (own_len o).1) fun hlm => ?_
          obtain ⟨hq1, hq2⟩ := hhr _ (get_mem' (l := s.hs) (i := (q : Int)) (by omega) (by omega))
          obtain ⟨e, op', tk', tl', hbt', hT, hR⟩ := both_give p r N s.op s.fs s.tk s.tl (Cof.get s.hs (q : Int)).1 (Cof.get s.hs (q : Int)).2 hq1 hN hb hbt
          have hdr := dropped_spec s.A s.m s.c s.hs (Cof.get s.hs (q : Int)).1 (by omega)
          repeat' (first | (refine XL_id ?_; first | refine XL_nil ?_ | refine XL_guard_yes rfl rfl rfl ?_ | (refine XG_load ?_; first | refine XL_load tt_ok 0 rfl rfl rfl rfl rfl rfl ?_ | refine XL_load tt_ok 3 rfl rfl rfl rfl rfl rfl ?_ | refine XL_elW tt_ok rfl (by assumption) rfl (by omega) (by omega) rfl rfl rfl rfl ?_) | (refine XG_idx ?_; refine XL_idx tt_ok rfl rfl rfl rfl rfl (by assumption) (by omega) (by omega) rfl ?_) | (refine XG_call ?_; first | (refine XL_op tt_ok rfl rfl ?_) | refine XL_fn hwi rfl rfl (fun _ _ _ => trivial) ?_ | refine XL_fn hw2 rfl rfl (fun _ _ _ => trivial) ?_ | (refine XL_callK [0] hT rfl rfl (fun _ => rfl) (fun _ _ _ => trivial) (fun u L hv => ?_); obtain ⟨gs, hgs, rfl, rfl⟩ := hv) | (refine XL_callK [1] hR rfl rfl (fun _ => rfl) (fun _ _ _ => trivial) (fun u L hv => ?_); obtain ⟨rfl, rfl⟩ := hv) | (refine XL_callK [2] hdr rfl rfl (fun _ => rfl) (fun _ _ _ => trivial) (fun u L hv => ?_); obtain ⟨A2, m2, c2, hs2, rfl, rfl, hm2, hsub⟩ := hv)) | (refine XG_alloc ?_; (refine XL_alloc tt_ok rfl rfl (fun _ => rfl) (fun b => ?_); refine XL_nB (by repeat' (first | exact .nil | apply NL.cons)) ?_)) | (refine XG_store ?_; (refine XL_storeW tt_ok 0 rfl rfl rfl rfl rfl rfl rfl ?_; refine XL_nK 0 rfl (by repeat' (first | exact .nil | apply NL.cons)) ?_)) | (refine XL_op tt_ok rfl rfl ?_; try (first | refine XL_dec_t (by omega) ?_ | refine XL_dec_f (by omega) ?_ | refine XL_dec (fun _ => ?_) (fun _ => ?_)))) | (refine XD_id ?_; first | (refine XD_thaw thaw ?_; refine XD_nil ?_) | (refine XD_id ?_; (first | (refine XD_uL rfl ?_; first | refine XD_s rfl rfl rfl (XV_load tt_ok rfl (blk_at 0 rfl hM) rfl rfl rfl) rfl ?_ | refine XD_s rfl rfl rfl (XV_el tt_ok rfl (rd_at 0 rfl hM) rfl (by omega) (by omega) rfl rfl rfl) rfl ?_ | refine XD_s rfl rfl rfl (XV_elf tt_ok rfl (rd_at 0 rfl hM) rfl (by omega) (by omega) rfl rfl rfl) rfl ?_) | (refine XD_uI rfl ?_; first | refine XD_s rfl rfl rfl (XV_idx tt_ok rfl rfl rfl rfl rfl (rd_at 0 rfl hM) (by omega) (by omega)) rfl ?_ | refine XD_s rfl rfl rfl (XV_idxa tt_ok rfl rfl rfl rfl rfl (by decide) (by decide)) rfl ?_) | (refine XD_u rfl rfl ?_; refine XD_s rfl rfl rfl (XV_op tt_ok rfl) rfl ?_)))) | (refine X_id ?_; first | refine X_cutD (c := .cond (.tmp 59) _ _) [0, 1, 5, 7, 10] (fun (s : Pst) => [(9, .slice s.A s.m s.c)]) (fun s => plM p r N s) (fun z => z.Ok N ∧ z.m ≤ s.i + 1) rfl (X_cond_f rfl ?_) (fun z hz => hold ?_) | (refine X_drawS (id := 23) [0, 1, 2, 3, 4, 5, 6, 7, 8, 9, 10, 11] (fun _ => .s) 8 (by (repeat apply Split.blk); apply Split.keep; (repeat apply Split.blk); apply Split.keep; (repeat apply Split.blk); apply Split.frz; repeat' (first | exact Split.nil | apply Split.blk)) mixed (by decide +kernel) ?_; intro G hFG hM thaw; show XD _ _ _ _ _ _ [0, 1, 2, 3, 4, 5, 6, 7, 8, 9, 10, 11] _ _ _) | (refine X_drawS (id := 19) [0, 1, 2, 3, 4, 5] (fun _ => .s) 8 (by repeat' (first | exact Split.nil | apply Split.blk | apply Split.keep)) mixed (by decide +kernel) ?_; intro G hFG hM thaw; show XD _ _ _ _ _ _ [0, 1, 2, 3, 4, 5] _ _ _) | refine X_seq ?_ | (refine X_regionN (by repeat' (first | exact .nil | apply NL.cons)) ?_) | refine X_skip ?_ | refine X_block ?_ | refine X_cond_t rfl ?_ | refine X_cond_f rfl ?_) | (refine Y_id ?_; refine Y_then ?_))
          all_goals first
            | exact Y_again ⟨0, op', gs, tk', tl', A2, m2, c2, hs2⟩ fun _ _ hf hs => ⟨⟨⟨hgs, hbt', fun x hx => hhr x (hsub x hx)⟩, by show m2 ≤ s.i + 1; omega⟩, hf.sub (by (repeat' (first | exact trivial | refine And.intro rfl ?_)); done), hs.imp fun g hg => stars_only [2, 1, 0] rfl g hg⟩
            | exact Y_again ⟨0, op', gs, tk', tl', s.A, s.m, s.c, s.hs⟩ fun _ _ hf hs => ⟨⟨⟨hgs, hbt', hhr⟩, by show s.m ≤ s.i + 1; omega⟩, hf.sub (by (repeat' (first | exact trivial | refine And.intro rfl ?_)); done), hs.imp fun g hg => stars_only [1, 0, 0] rfl g hg⟩
            | skip
          · intro _
            refine Y_then ?_
            obtain ⟨⟨hzb, hzt, hzh⟩, hzm⟩ := hz
            have hzl := hzt.len
            have hfr := free_is p N z.op z.fs z.tk (by omega) hzb
            have hrf := rfree_is r z.op z.tl (by omega)
            have hwh := whole_is p z.op z.fs z.tk (by omega) hzb
            have hrw := rwhole_is r z.op z.tl (by omega)
            have hls := lists_walk p N r z.op z.fs z.tk z.tl (by omega) hzb
            rw [hzl] at hwh hrw
            obtain ⟨B, hB⟩ : ∃ B, decide ((cntB z.op : Int) = N) = B := ⟨_, rfl⟩
            rw [hB] at hwh hrw
            have hBB : (!(B == B)) = false := by cases B <;> rfl
            repeat' (first | (refine XL_id ?_; first | refine XL_head (show Value.bool (!(B == B)) = .bool false from congrArg _ hBB) ?_ | refine XL_nil ?_ | refine XL_guard_yes rfl rfl rfl ?_ | refine XL_guard_no rfl rfl rfl rfl rfl ?_ | (refine XG_call ?_; first | refine XL_callE [0] hfr rfl rfl rfl (fun _ _ _ => trivial) ?_ | refine XL_callE [1] hrf rfl rfl rfl (fun _ _ _ => trivial) ?_ | refine XL_callE [1] hwh rfl rfl rfl (fun _ _ _ => trivial) ?_ | refine XL_callE [1] hrw rfl rfl rfl (fun _ _ _ => trivial) ?_ | refine XL_callE [1, 0] hls rfl rfl rfl (fun _ _ _ => trivial) ?_) | (refine XL_op tt_ok rfl rfl ?_; try (first | refine XL_int (wrap_i64 (by omega) (by omega)) ?_ | refine XL_dec_f (by omega) ?_ | refine XL_dec (fun _ => ?_) (fun _ => ?_)))) | (refine X_id ?_; first | refine X_seq ?_ | (refine X_regionN (by repeat' (first | exact .nil | apply NL.cons)) ?_) | refine X_skip ?_ | refine X_cond_f rfl ?_) | (refine Y_id ?_; first | refine Y_then ?_ | refine Y_block_normal ?_))
            all_goals first
              | exact Y_again ⟨s.i + 1, z.op, z.fs, z.tk, z.tl, z.A, z.m, z.c, z.hs⟩ fun _ _ hf hs => ⟨⟨⟨hzb, hzt, hzh⟩, by show s.i + 1 ≤ m; omega, hzm⟩, by show m - (s.i + 1) < m - s.i; omega, hf.sub (by (repeat' (first | exact trivial | refine And.intro rfl ?_)); done), hs.imp fun g hg => by first | exact stars_only [0, 0, 0] rfl g hg | exact stars_only [1, 0, 0] rfl g hg⟩
              | (exfalso; omega)
              | skip
            
        · obtain ⟨e, op', tk', tl', hbt', hT, hR⟩ := both_give p r N s.op s.fs s.tk s.tl (Cof.get l (s.i : Int)).a (Cof.get l (s.i : Int)).o hxa hN hb hbt
          have hdr := dropped_spec s.A s.m s.c s.hs (Cof.get l (s.i : Int)).a (by omega)
          repeat' (first | (refine XL_id ?_; first | refine XL_nil ?_ | refine XL_guard_yes rfl rfl rfl ?_ | refine XL_guard_no rfl rfl rfl rfl rfl ?_ | (refine XG_load ?_; first | refine XL_load tt_ok 0 rfl rfl rfl rfl rfl rfl ?_ | refine XL_load tt_ok 3 rfl rfl rfl rfl rfl rfl ?_ | refine XL_elW tt_ok rfl (by assumption) rfl (by omega) (by omega) rfl rfl rfl rfl ?_) | (refine XG_idx ?_; refine XL_idx tt_ok rfl rfl rfl rfl rfl (by assumption) (by omega) (by omega) rfl ?_) | (refine XG_call ?_; first | (refine XL_op tt_ok rfl rfl ?_) | refine XL_fn hwi rfl rfl (fun _ _ _ => trivial) ?_ | (refine XL_callK [0] hT rfl rfl (fun _ => rfl) (fun _ _ _ => trivial) (fun u L hv => ?_); obtain ⟨gs, hgs, rfl, rfl⟩ := hv) | (refine XL_callK [1] hR rfl rfl (fun _ => rfl) (fun _ _ _ => trivial) (fun u L hv => ?_); obtain ⟨rfl, rfl⟩ := hv) | (refine XL_callK [2] hdr rfl rfl (fun _ => rfl) (fun _ _ _ => trivial) (fun u L hv => ?_); obtain ⟨A2, m2, c2, hs2, rfl, rfl, hm2, hsub⟩ := hv)) | (refine XG_alloc ?_; (refine XL_alloc tt_ok rfl rfl (fun _ => rfl) (fun b => ?_); refine XL_nB (by repeat' (first | exact .nil | apply NL.cons)) ?_)) | (refine XG_store ?_; (refine XL_storeW tt_ok 0 rfl rfl rfl rfl rfl rfl rfl ?_; refine XL_nK 0 rfl (by repeat' (first | exact .nil | apply NL.cons)) ?_)) | (refine XL_op tt_ok rfl rfl ?_; try (first | refine XL_dec_t (by omega) ?_ | refine XL_dec_f (by omega) ?_ | refine XL_dec (fun _ => ?_) (fun _ => ?_)))) | (refine XD_id ?_; first | (refine XD_thaw thaw ?_; refine XD_nil ?_) | (refine XD_id ?_; (first | (refine XD_uL rfl ?_; refine XD_s rfl rfl rfl (XV_load tt_ok rfl (blk_at 0 rfl hM) rfl rfl rfl) rfl ?_) | (refine XD_u rfl rfl ?_; refine XD_s rfl rfl rfl (XV_op tt_ok rfl) rfl ?_)))) | (refine X_id ?_; first | refine X_cutD (c := .cond (.tmp 59) _ _) [0, 1, 5, 7, 10] (fun (s : Pst) => [(9, .slice s.A s.m s.c)]) (fun s => plM p r N s) (fun z => z.Ok N ∧ z.m ≤ s.i + 1) rfl (X_cond_f rfl ?_) (fun z hz => hold ?_) | (refine X_drawS (id := 19) [0, 1, 2, 3, 4, 5] (fun _ => .s) 8 (by repeat' (first | exact Split.nil | apply Split.blk | apply Split.keep)) mixed (by decide +kernel) ?_; intro G hFG hM thaw; show XD _ _ _ _ _ _ [0, 1, 2, 3, 4, 5] _ _ _) | refine X_seq ?_ | (refine X_regionN (by repeat' (first | exact .nil | apply NL.cons)) ?_) | refine X_skip ?_ | refine X_block ?_ | refine X_cond_t rfl ?_ | refine X_cond_f rfl ?_) | (refine Y_id ?_; refine Y_then ?_))
          all_goals first
            | exact Y_again ⟨0, op', gs, tk', tl', A2, m2, c2, hs2⟩ fun _ _ hf hs => ⟨⟨⟨hgs, hbt', fun x hx => hhr x (hsub x hx)⟩, by show m2 ≤ s.i + 1; omega⟩, hf.sub (by (repeat' (first | exact trivial | refine And.intro rfl ?_)); done), hs.imp fun g hg => stars_only [2, 1, 0] rfl g hg⟩
            | exact Y_again ⟨0, op', gs, tk', tl', s.A, s.m, s.c, s.hs⟩ fun _ _ hf hs => ⟨⟨⟨hgs, hbt', hhr⟩, by show s.m ≤ s.i + 1; omega⟩, hf.sub (by (repeat' (first | exact trivial | refine And.intro rfl ?_)); done), hs.imp fun g hg => stars_only [1, 0, 0] rfl g hg⟩
            | skip
          · intro _
            refine Y_then ?_
            obtain ⟨⟨hzb, hzt, hzh⟩, hzm⟩ := hz
            have hzl := hzt.len
            have hfr := free_is p N z.op z.fs z.tk (by omega) hzb
            have hrf := rfree_is r z.op z.tl (by omega)
            have hwh := whole_is p z.op z.fs z.tk (by omega) hzb
            have hrw := rwhole_is r z.op z.tl (by omega)
            have hls := lists_walk p N r z.op z.fs z.tk z.tl (by omega) hzb
            rw [hzl] at hwh hrw
            obtain ⟨B, hB⟩ : ∃ B, decide ((cntB z.op : Int) = N) = B := ⟨_, rfl⟩
            rw [hB] at hwh hrw
            have hBB : (!(B == B)) = false := by cases B <;> rfl
            repeat' (first | (refine XL_id ?_; first | refine XL_head (show Value.bool (!(B == B)) = .bool false from congrArg _ hBB) ?_ | refine XL_nil ?_ | refine XL_guard_yes rfl rfl rfl ?_ | refine XL_guard_no rfl rfl rfl rfl rfl ?_ | (refine XG_call ?_; first | refine XL_callE [0] hfr rfl rfl rfl (fun _ _ _ => trivial) ?_ | refine XL_callE [1] hrf rfl rfl rfl (fun _ _ _ => trivial) ?_ | refine XL_callE [1] hwh rfl rfl rfl (fun _ _ _ => trivial) ?_ | refine XL_callE [1] hrw rfl rfl rfl (fun _ _ _ => trivial) ?_ | refine XL_callE [1, 0] hls rfl rfl rfl (fun _ _ _ => trivial) ?_) | (refine XL_op tt_ok rfl rfl ?_; try (first | refine XL_int (wrap_i64 (by omega) (by omega)) ?_ | refine XL_dec_f (by omega) ?_ | refine XL_dec (fun _ => ?_) (fun _ => ?_)))) | (refine X_id ?_; first | refine X_seq ?_ | (refine X_regionN (by repeat' (first | exact .nil | apply NL.cons)) ?_) | refine X_skip ?_ | refine X_cond_f rfl ?_) | (refine Y_id ?_; first | refine Y_then ?_ | refine Y_block_normal ?_))
            all_goals first
              | exact Y_again ⟨s.i + 1, z.op, z.fs, z.tk, z.tl, z.A, z.m, z.c, z.hs⟩ fun _ _ hf hs => ⟨⟨⟨hzb, hzt, hzh⟩, by show s.i + 1 ≤ m; omega, hzm⟩, by show m - (s.i + 1) < m - s.i; omega, hf.sub (by (repeat' (first | exact trivial | refine And.intro rfl ?_)); done), hs.imp fun g hg => by first | exact stars_only [0, 0, 0] rfl g hg | exact stars_only [1, 0, 0] rfl g hg⟩
              | (exfalso; omega)
              | skip
            
    · repeat' (first | (refine XL_id ?_; first | refine XL_nil ?_ | refine XL_guard_yes rfl rfl rfl ?_ | refine XL_guard_no rfl rfl rfl rfl rfl ?_ | (refine XG_call ?_; first | (refine XL_op tt_ok rfl rfl ?_) | refine XL_callE [0, 0] (lists_walk p N r s.op s.fs s.tk s.tl (by omega) hb) rfl rfl rfl (fun _ _ _ => trivial) ?_ | refine XL_fn awake_spec rfl rfl (fun _ _ _ => trivial) ?_) | (refine XL_op tt_ok rfl rfl ?_; try (first | refine XL_dec_f (by omega) ?_ | refine XL_dec (fun _ => ?_) (fun _ => ?_)))) | (refine X_id ?_; first | refine X_seq ?_ | (refine X_regionN (by repeat' (first | exact .nil | apply NL.cons)) ?_) | refine X_ret ?_ | refine X_exit ?_ | refine X_cond_f rfl ?_) | (refine Y_id ?_; first | refine Y_then ?_ | refine Y_then_exit ?_ | refine Y_block_hit ?_))
      all_goals first
        | exact Y_fn1 rfl rfl rfl
        | (exfalso; omega)
        | skip
      
end Go.Proofs.Ytkcpjgdmfjhlkaa
