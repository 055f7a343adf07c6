/- BuddyApart: what is handed out never overlaps. -/
import Derived.Test.YtkcpjgdmfjhlkaaWe
set_option linter.unusedVariables false
namespace Go.Proofs.Ytkcpjgdmfjhlkaa
open Go.RowKit Go.Cof

structure Ast where
  i : Nat
  op : List Bool
  fs : List (List Int)
  tk : Int → Option Int
  A : Option Addr
  m : Nat
  c : Nat
  hs : List Hb
  d : Int
structure Ast.Ok (s : Ast) (n : Nat) : Prop where
  len : s.op.length = n
  b : BOk s.op s.fs
  t : TkOk s.op s.tk
  h : HOk s.tk s.hs
  cv : Cov s.op s.hs
  cd : s.d = (n : Int) - (cntB s.op : Int)
theorem Ast.Ok.took {s : Ast} {n : Nat} (h : s.Ok n) {o k a : Nat} {gs : List (List Int)} {A : Option Addr} {m c i P : Nat} (hb : BOk (setN s.op a (2 ^ o) false) gs) (ho : o ≤ k) (hk : k ≤ 6) (hm : Mx s.op a k) (hP : 2 ^ o = P) : Ast.Ok ⟨i, setN s.op a (2 ^ o) false, gs, updI s.tk a (some o), A, m, c, s.hs ++ [((a : Int), (o : Int))], s.d + P⟩ n := by
  obtain ⟨hd, hl, hc⟩ := hm.open ho
  have hp := two_pos o
  have hcn := cnt_close hl hc
  have hcd := h.cd
  exact ⟨by show (setN s.op a (2 ^ o) false).length = n; rw [setN_len]; exact h.len, hb, h.t.take (by omega) hd hl hc, h.h.take (h.t.free (hc a (Nat.le_refl _) (by omega))), h.cv.take, by show s.d + (P : Int) = (n : Int) - (cntB (setN s.op a (2 ^ o) false) : Int); omega⟩
theorem Ast.Ok.held {s : Ast} {n : Nat} (h : s.Ok n) {q : Nat} (hq : q < s.hs.length) : ∃ a k : Nat, (Cof.get s.hs (q : Int)).1 = a ∧ (Cof.get s.hs (q : Int)).2 = k ∧ Tkb s.op a k ∧ s.tk (Cof.get s.hs (q : Int)).1 = some (Cof.get s.hs (q : Int)).2 := by
  have hx := h.h.tt _ (get_mem' (l := s.hs) (i := (q : Int)) (by omega) (by omega))
  obtain ⟨a, k, e1, e2, hk⟩ := h.t.blk _ _ hx
  exact ⟨a, k, e1, e2, hk, hx⟩
theorem Ast.Ok.gave {s : Ast} {n : Nat} (h : s.Ok n) {q a k : Nat} (hq : q < s.hs.length) (e1 : (Cof.get s.hs (q : Int)).1 = a) (e2 : (Cof.get s.hs (q : Int)).2 = k) (ht : s.tk (Cof.get s.hs (q : Int)).1 = some (Cof.get s.hs (q : Int)).2) {gs : List (List Int)} {A : Option Addr} {m c i P : Nat} {d : Int} (hb : BOk (setN s.op a (2 ^ k) true) gs) (hk : Tkb s.op a k) (hP : 2 ^ k = P) (hd : d = s.d - P) : Ast.Ok ⟨i, setN s.op a (2 ^ k) true, gs, updI s.tk (Cof.get s.hs (q : Int)).1 none, A, m, c, s.hs.eraseIdx q, d⟩ n := by
  have hcn := cnt_open hk.le hk.cl
  have hcd := h.cd
  have h1 := h.h.give hq
  have h2 := h.cv.give h.h hq e1 e2
  rw [e1, e2] at ht
  refine ⟨by show (setN s.op a (2 ^ k) true).length = n; rw [setN_len]; exact h.len, hb, ?_, h1, h2, by show d = (n : Int) - (cntB (setN s.op a (2 ^ k) true) : Int); omega⟩
  show TkOk (setN s.op a (2 ^ k) true) (updI s.tk (Cof.get s.hs (q : Int)).1 none)
  rw [e1]
  exact h.t.give ht
theorem fit_spec (A : Option Addr) (n c : Nat) (op : List Bool) (e : op.length = n) (hn : op.length ≤ 4096) (o : Nat) (ho : o ≤ 6) (b : Bool) (hb : b = true ↔ ∃ a, 2 ^ o ∣ a ∧ a + 2 ^ o ≤ op.length ∧ ∀ i, a ≤ i → i < a + 2 ^ o → O op i) : FnC Try.prog 21 [.slice A n c, iV o] (fun h => rdS encB h A n (neg op)) (.bool b) := by
  subst e; exact fits_spec A c op hn o ho b hb
theorem took_spec (A : Option Addr) (n c : Nat) (op : List Bool) (e : op.length = n) (hn : op.length ≤ 4096) (a o : Nat) (ho : o ≤ 6) (hd : 2 ^ o ∣ a) (hl : a + 2 ^ o ≤ op.length) (hc : ∀ i, a ≤ i → i < a + 2 ^ o → O op i) : Ctr Try.prog 22 [.slice A n c, iV a, iV o] (fun _ => True) [own encB A n c (neg op)] (fun v L => v = .bool true ∧ L = [own encB A n c (neg (setN op a (2 ^ o) false))]) := by
  subst e; exact taken_spec A c op hn a o ho hd hl hc
theorem gave_spec (p n : Nat) (fs : List (List Int)) (tk : Int → Option Int) (A : Option Addr) (c : Nat) (op : List Bool) (e : op.length = n) (hn : op.length ≤ 4096) (hb : BOk op fs) (x : Hb) (a o : Nat) (e1 : x.1 = a) (e2 : x.2 = o) (hk : Tkb op a o) (ht : tk x.1 = some x.2) : Ctr Try.prog 23 [ptr p, .slice A n c, .agg #[iV x.1, iV x.2]] (fun _ => True) [isBd p n fs tk, own encB A n c (neg op)] (fun v L => ∃ gs, BOk (setN op a (2 ^ o) true) gs ∧ v = .bool true ∧ L = [isBd p n gs (updI tk x.1 none), own encB A n c (neg (setN op a (2 ^ o) true))]) := by
  subst e; exact back_spec p op.length fs tk A c op hn hb x a o e1 e2 hk ht
theorem full_spec (p n : Nat) (op : List Bool) (fs : List (List Int)) (tk : Int → Option Int) (e : op.length = n) (hn : op.length ≤ 4096) (hb : BOk op fs) (b : Bool) (hx : b = true ↔ cntB op = n) : Ctr Try.prog 18 [ptr p] (fun _ => True) [isBd p n fs tk] (fun v L => v = .bool b ∧ L = [isBd p n fs tk]) := by
  subst e
  have h := whole_is p op fs tk hn hb
  have e2 : decide ((cntB op : Int) = op.length) = b := by
    cases b with
    | true => exact decide_eq_true (by have := hx.1 rfl; omega)
    | false => exact decide_eq_false fun h => by have := hx.2 (by omega); cases this
  rw [e2] at h
  exact h
theorem rm7 {v : Int} (h : 0 ≤ v) : ∃ o : Nat, v % 7 = o ∧ o ≤ 6 := ⟨(v % 7).toNat, by omega, by omega⟩
theorem dec_iff {p q : Prop} [Decidable p] (h : p ↔ q) : decide p = true ↔ q := by rw [decide_eq_true_iff]; exact h
abbrev apM (p p2 n : Nat) (B : Option Addr) (f0 : List (List Int)) (s : Ast) : List HProp := [isBd p n s.fs s.tk, own encB B n n (neg s.op), own encH s.A s.m s.c s.hs, isBd p2 n f0 (fun _ => none)]
set_option maxRecDepth 100000 in
set_option maxHeartbeats 16000000 in
theorem buddyApart_walk (n : Int) (hn : i64R n) (A : Option Addr) (m c : Nat) (l : List Int) (hl : ∀ x ∈ l, i64R x) (hm : m ≤ 9223372036854775807) (A2 : Option Addr) (m2 c2 : Nat) (l2 : List Int) (hl2 : ∀ x ∈ l2, i64R x) (hm2 : m2 ≤ 9223372036854775807) : FnC Try.prog 4 [iV n, .slice A m c, .slice A2 m2 c2] (fun h => rdS encN h A m l ∧ rdS encN h A2 m2 l2) (.bool true) := by
  refine Ctr.intro Try.func4 rfl rfl (by decide +kernel) fun F hpre => ?_
  have rl : rdS encN F.heap A m l := hpre.1
  have rl2 : rdS encN F.heap A2 m2 l2 := hpre.2
  have hll := rl.1
  have hll2 := rl2.1
  have hwn := within_spec n 400 hn.1 hn.2 (by omega) (by omega)
  obtain ⟨N, hN⟩ : ∃ N : Nat, n % 400 = N := ⟨(n % 400).toNat, by omega⟩
  have hN4 : N < 400 := by omega
  rw [hN] at hwn
  repeat' (first | (refine XL_id ?_; first | refine XL_nil ?_ | refine XL_guard_yes rfl rfl rfl ?_ | (refine XG_call ?_; first | refine XL_fn awake_spec rfl rfl (fun _ _ _ => trivial) ?_ | refine XL_fn hwn rfl rfl (fun _ _ _ => trivial) ?_ | (refine XL_callK [] (new_spec N (by omega)) rfl rfl (fun _ => rfl) (fun _ _ _ => trivial) (fun u L hv => ?_); first | (have hsec := hb0; obtain ⟨p2, f1, hb1, rfl, rfl⟩ := hv) | obtain ⟨p, f0, hb0, rfl, rfl⟩ := hv)) | (refine XG_make ?_; (refine XL_make encB false tt_ok rfl rfl rfl rfl rfl rfl rfl rfl (by omega) (by omega) (by show (1 : Int) * _ ≤ _; omega) (by omega) (fun _ => rfl) (fun pb => ?_))) | (refine XL_op tt_ok rfl rfl ?_; try (refine XL_dec_f (by omega) ?_))) | (refine X_id ?_; first | refine X_block (id := 0) (hold ?_) | refine X_seq ?_ | (refine X_regionN (by repeat' (first | exact .nil | apply NL.cons)) ?_) | refine X_skip ?_ | refine X_cond_f rfl ?_) | (refine Y_id ?_; refine Y_then ?_))
  intro _
  refine X_mem (fun _ hh => stars_take [2, 0, 0] rfl hh) ?_
  refine X_loopD [0, 1, 2, 7, 9, 11] (fun (s : Ast) => [(14, .int .i64 s.i), (13, .int .i64 s.d), (12, .slice s.A s.m s.c)]) (fun s => apM p p2 N (some ⟨pb, 0, none⟩) f1 s) (fun s => s.Ok N ∧ s.i ≤ m ∧ s.i ≤ 300 ∧ s.m ≤ s.i) (fun s => m - s.i) ⟨0, allO N, f0, fun _ => none, none, 0, 0, [], 0⟩ rfl ⟨⟨List.length_replicate, hb0, TkOk.nil, HOk.nil, Cov.nil N, by show (0 : Int) = (N : Int) - (cntB (allO N) : Int); rw [cnt_all]; omega⟩, Nat.zero_le _, Nat.zero_le _, Nat.le_refl _⟩ (by (repeat' (first | exact trivial | refine And.intro rfl ?_)); done) (fun h hs => by rw [← neg_allO] at hs; exact stars_take [1, 1, 0, 0] rfl (stars_new (own_nil encH _) hs)) ?_
  intro s hs
  obtain ⟨hok, hi, hi3, hmi⟩ := hs
  have hlen := hok.len
  have hcd := hok.cd
  have hcl := cnt_le' s.op
  by_cases hlt : s.i < m ∧ s.i < 300
  · have hxv := hl _ (get_mem' (l := l) (i := (s.i : Int)) (by omega) (by omega))
    by_cases hv0 : 0 ≤ Cof.get l (s.i : Int)
    · obtain ⟨q, hq, hq6⟩ := rm7 hv0
      have hrem : (Cof.get l (s.i : Int)).tmod 7 = q := by rw [rem_pos hv0]; exact hq
      repeat' (first | (refine XL_id ?_; first | refine XL_nil ?_ | refine XL_guard_yes rfl rfl rfl ?_ | (refine XG_load ?_; refine XL_el tt_ok rfl (by assumption) rfl (by omega) (by omega) rfl rfl rfl rfl ?_) | (refine XG_idx ?_; refine XL_idx tt_ok rfl rfl rfl rfl rfl (by assumption) (by omega) (by omega) rfl ?_) | (refine XL_op tt_ok rfl rfl ?_; try (refine XL_dec_t (by omega) ?_))) | (refine X_id ?_; first | refine X_cutD (c := .cond (.tmp 61) _ _) [0, 1, 2, 7, 9, 11, 14] (fun (z : Ast) => [(13, .int .i64 z.d), (12, .slice z.A z.m z.c)]) (fun z => apM p p2 N (some ⟨pb, 0, none⟩) f1 z) (fun z => z.Ok N ∧ z.m ≤ s.i + 1) rfl (hold ?_) (fun z hz => hold ?_) | refine X_seq ?_ | (refine X_regionN (by repeat' (first | exact .nil | apply NL.cons)) ?_) | refine X_skip ?_ | refine X_block ?_ | refine X_cond_t rfl ?_) | (refine Y_id ?_; refine Y_then ?_))
      all_goals first
        | (exfalso; omega)
        | skip
      · intro _
        refine X_cond_t rfl ?_
        rcases take_way s.op q hq6 with hno | ⟨k, a, h1, h2, h3, h4, h5, h6⟩
        · have hF := fit_spec (some ⟨pb, 0, none⟩) N N s.op hlen (by omega) q hq6 false ⟨fun h => (by cases h), fun h => absurd h (no_fit hq6 hno)⟩
          have hT := takeN_spec p N s.op s.fs s.tk q hq6 hok.b hno
          repeat' (first | (refine XL_id ?_; first | refine XL_nil ?_ | (refine XG_load ?_; refine XL_el tt_ok rfl (by assumption) rfl (by omega) (by omega) rfl rfl rfl rfl ?_) | (refine XG_idx ?_; refine XL_idx tt_ok rfl rfl rfl rfl rfl (by assumption) (by omega) (by omega) rfl ?_) | (refine XG_call ?_; first | refine XL_fn hF rfl rfl (fun g hg hL => rd_at 1 rfl hL) ?_ | refine XL_callE [0] hT rfl rfl rfl (fun _ _ _ => trivial) ?_) | (refine XL_op tt_ok (opV_rem rfl rfl (by omega)) rfl ?_; refine XL_int hrem ?_) | (refine XL_op tt_ok rfl rfl ?_; try (refine XL_dec_f (by omega) ?_))) | (refine X_id ?_; first | refine X_seq ?_ | (refine X_regionN (by repeat' (first | exact .nil | apply NL.cons)) ?_) | refine X_skip ?_ | refine X_cond_f rfl ?_) | (refine Y_id ?_; refine Y_then ?_))
          all_goals first
            | exact Y_again ⟨0, s.op, s.fs, s.tk, s.A, s.m, s.c, s.hs, s.d⟩ fun _ _ hf hs => ⟨⟨⟨hok.len, hok.b, hok.t, hok.h, hok.cv, hok.cd⟩, by show s.m ≤ s.i + 1; omega⟩, hf.sub (by (repeat' (first | exact trivial | refine And.intro rfl ?_)); done), hs⟩
            | (exfalso; omega)
            | skip
          
        · obtain ⟨hmd, hml, hmc⟩ := h6.open h1
          have hF := fit_spec (some ⟨pb, 0, none⟩) N N s.op hlen (by omega) q hq6 true ⟨fun _ => ⟨a, hmd, hml, hmc⟩, fun _ => rfl⟩
          have hT := takeA_spec p N s.op s.fs s.tk q k a (by omega) hok.b h2 h1 h3 h4 h5
          have hK := took_spec (some ⟨pb, 0, none⟩) N N s.op hlen (by omega) a q hq6 hmd hml hmc
          obtain ⟨P, hP⟩ : ∃ P, 2 ^ q = P := ⟨_, rfl⟩
          have hP6 : P ≤ 64 := by rw [← hP]; exact Nat.pow_le_pow_right (n := 2) (by decide) hq6
          repeat' (first | (refine XL_id ?_; first | refine XL_nil ?_ | (refine XL_fact 3 rfl (fun _ o => (own_len o).1) (fun hlm => ?_); refine XL_app1 (E := encH) tt_ok 3 0 ((a : Int), (q : Int)) rfl rfl rfl rfl rfl rfl rfl rfl rfl rfl rfl (by show (_ : Nat) * 16 ≤ _; omega) (by omega) (fun _ _ => rfl) (fun A3 c3 => ?_)) | (refine XG_load ?_; refine XL_el tt_ok rfl (by assumption) rfl (by omega) (by omega) rfl rfl rfl rfl ?_) | (refine XG_idx ?_; refine XL_idx tt_ok rfl rfl rfl rfl rfl (by assumption) (by omega) (by omega) rfl ?_) | (refine XG_build ?_; refine XL_buildA tt_ok rfl rfl rfl rfl rfl rfl rfl ?_) | (refine XG_call ?_; first | refine XL_fn hF rfl rfl (fun g hg hL => rd_at 1 rfl hL) ?_ | (refine XL_callK [0] hT rfl rfl (fun _ => rfl) (fun _ _ _ => trivial) (fun u L hv => ?_); obtain ⟨gs, hgs, rfl, rfl⟩ := hv) | refine XL_callE [1] hK rfl rfl rfl (fun _ _ _ => trivial) ?_) | (refine XG_lit ?_; (refine XL_lit tt_ok rfl rfl rfl rfl rfl rfl rfl rfl rfl (fun _ => rfl) (fun b => ?_); refine XL_nB (by repeat' (first | exact .nil | apply NL.cons)) ?_)) | (refine XL_op tt_ok (opV_rem rfl rfl (by omega)) rfl ?_; refine XL_int hrem ?_) | (refine XL_op tt_ok (opV_shl rfl rfl (by omega)) rfl ?_; refine XL_int (shl_o hq6 hP) ?_) | (refine XL_op tt_ok rfl rfl ?_; try (first | refine XL_int (wrap_i64 (by omega) (by omega)) ?_ | refine XL_dec_t (by omega) ?_))) | (refine X_id ?_; first | refine X_seq ?_ | (refine X_regionN (by repeat' (first | exact .nil | apply NL.cons)) ?_) | refine X_skip ?_ | refine X_cond_t rfl ?_ | refine X_cond_f rfl ?_) | (refine Y_id ?_; refine Y_then ?_))
          all_goals first
            | exact Y_again ⟨0, setN s.op a (2 ^ q) false, gs, updI s.tk a (some q), A3, s.m + 1, c3, s.hs ++ [((a : Int), (q : Int))], s.d + P⟩ fun _ _ hf hs => ⟨⟨hok.took hgs h1 h2 h6 hP, by show s.m + 1 ≤ s.i + 1; omega⟩, hf.sub (by (repeat' (first | exact trivial | refine And.intro rfl ?_)); done), hs.imp fun g hg => stars_only [2, 1, 1, 1] rfl g hg⟩
            | (exfalso; omega)
            | skip
          
      · intro _
        refine Y_then ?_
        obtain ⟨hzo, hzm⟩ := hz
        have hzl := hzo.len
        have hzd := hzo.cd
        have hzc := cnt_le' z.op
        have hfr := free_is p N z.op z.fs z.tk (by omega) hzo.b
        by_cases hd0 : z.d = 0
        · have hwh := full_spec p N z.op z.fs z.tk hzl (by omega) hzo.b true ⟨fun _ => by omega, fun _ => rfl⟩
          repeat' (first | (refine XL_id ?_; first | refine XL_nil ?_ | refine XL_guard_yes rfl rfl rfl ?_ | (refine XG_call ?_; first | refine XL_callE [0] hfr rfl rfl rfl (fun _ _ _ => trivial) ?_ | refine XL_callE [0] hwh rfl rfl rfl (fun _ _ _ => trivial) ?_) | (refine XL_op tt_ok rfl rfl ?_; try (first | refine XL_int (wrap_i64 (by omega) (by omega)) ?_ | refine XL_dec_t (by omega) ?_ | refine XL_dec_f (by omega) ?_))) | (refine X_id ?_; first | refine X_seq ?_ | (refine X_regionN (by repeat' (first | exact .nil | apply NL.cons)) ?_) | refine X_skip ?_ | refine X_cond_f rfl ?_) | (refine Y_id ?_; first | refine Y_then ?_ | refine Y_block_normal ?_))
          all_goals first
            | exact Y_again ⟨s.i + 1, z.op, z.fs, z.tk, z.A, z.m, z.c, z.hs, z.d⟩ fun _ _ hf hs => ⟨⟨⟨hzo.len, hzo.b, hzo.t, hzo.h, hzo.cv, hzo.cd⟩, by show s.i + 1 ≤ m; omega, by show s.i + 1 ≤ 300; omega, hzm⟩, by show m - (s.i + 1) < m - s.i; omega, hf.sub (by (repeat' (first | exact trivial | refine And.intro rfl ?_)); done), hs⟩
            | (exfalso; omega)
            | skip
          
        · have hwh := full_spec p N z.op z.fs z.tk hzl (by omega) hzo.b false ⟨fun h => (by cases h), fun _ => by omega⟩
          repeat' (first | (refine XL_id ?_; first | refine XL_nil ?_ | refine XL_guard_yes rfl rfl rfl ?_ | (refine XG_call ?_; first | refine XL_callE [0] hfr rfl rfl rfl (fun _ _ _ => trivial) ?_ | refine XL_callE [0] hwh rfl rfl rfl (fun _ _ _ => trivial) ?_) | (refine XL_op tt_ok rfl rfl ?_; try (first | refine XL_int (wrap_i64 (by omega) (by omega)) ?_ | refine XL_dec_f (by omega) ?_))) | (refine X_id ?_; first | refine X_seq ?_ | (refine X_regionN (by repeat' (first | exact .nil | apply NL.cons)) ?_) | refine X_skip ?_ | refine X_cond_f rfl ?_) | (refine Y_id ?_; first | refine Y_then ?_ | refine Y_block_normal ?_))
          all_goals first
            | exact Y_again ⟨s.i + 1, z.op, z.fs, z.tk, z.A, z.m, z.c, z.hs, z.d⟩ fun _ _ hf hs => ⟨⟨⟨hzo.len, hzo.b, hzo.t, hzo.h, hzo.cv, hzo.cd⟩, by show s.i + 1 ≤ m; omega, by show s.i + 1 ≤ 300; omega, hzm⟩, by show m - (s.i + 1) < m - s.i; omega, hf.sub (by (repeat' (first | exact trivial | refine And.intro rfl ?_)); done), hs⟩
            | (exfalso; omega)
            | skip
          
    · repeat' (first | (refine XL_id ?_; first | refine XL_nil ?_ | refine XL_guard_yes rfl rfl rfl ?_ | (refine XG_load ?_; refine XL_el tt_ok rfl (by assumption) rfl (by omega) (by omega) rfl rfl rfl rfl ?_) | (refine XG_idx ?_; refine XL_idx tt_ok rfl rfl rfl rfl rfl (by assumption) (by omega) (by omega) rfl ?_) | (refine XL_op tt_ok rfl rfl ?_; try (first | refine XL_dec_t (by omega) ?_ | refine XL_dec_f (by omega) ?_))) | (refine X_id ?_; first | refine X_cutD (c := .cond (.tmp 61) _ _) [0, 1, 2, 7, 9, 11, 14] (fun (z : Ast) => [(13, .int .i64 z.d), (12, .slice z.A z.m z.c)]) (fun z => apM p p2 N (some ⟨pb, 0, none⟩) f1 z) (fun z => z.Ok N ∧ z.m ≤ s.i + 1) rfl (hold ?_) (fun z hz => hold ?_) | refine X_seq ?_ | (refine X_regionN (by repeat' (first | exact .nil | apply NL.cons)) ?_) | refine X_skip ?_ | refine X_block ?_ | refine X_cond_t rfl ?_) | (refine Y_id ?_; refine Y_then ?_))
      all_goals first
        | (exfalso; omega)
        | skip
      · intro _
        refine X_cond_f rfl ?_
        by_cases hm0 : 0 < s.m
        · have hm1 := Int.emod_nonneg (Cof.get l (s.i : Int)) (show (s.m : Int) ≠ 0 by omega)
          have hm2 := Int.emod_lt_of_pos (Cof.get l (s.i : Int)) (show 0 < (s.m : Int) by omega)
          have hw2 := within_spec (Cof.get l (s.i : Int)) (s.m : Int) hxv.1 hxv.2 (by omega) (by omega)
          obtain ⟨q, hq⟩ : ∃ q : Nat, Cof.get l (s.i : Int) % (s.m : Int) = q := ⟨(Cof.get l (s.i : Int) % (s.m : Int)).toNat, by omega⟩
          rw [hq] at hw2 hm2
          refine X_fact 2 rfl (fun _ o => (own_len o).1) fun hlm => ?_
          obtain ⟨a, k, e1, e2, hk, htk⟩ := hok.held (q := q) (by omega)
          obtain ⟨P, hP⟩ : ∃ P, 2 ^ k = P := ⟨_, rfl⟩
          have hP6 : P ≤ 64 := by rw [← hP]; exact Nat.pow_le_pow_right (n := 2) (by decide) hk.k6
          have hshl : IntKind.i64.wrap (1 * 2 ^ min (Cof.get s.hs (q : Int)).2.toNat IntKind.i64.bits) = (P : Int) := by rw [e2]; exact shl_o hk.k6 hP
          have hG := gave_spec p N s.fs s.tk (some ⟨pb, 0, none⟩) N s.op hlen (by omega) hok.b (Cof.get s.hs (q : Int)) a k e1 e2 hk htk
          have hwo2 := without_spec s.A s.m s.c s.hs (q : Int) (by omega)
          have hera : outI (q : Int) s.hs s.m = s.hs.eraseIdx q := by rw [outI_era (by omega), List.take_of_length_le (by omega)]
          rw [hera] at hwo2
          repeat' (first | (refine XL_id ?_; first | refine XL_nil ?_ | (refine XG_load ?_; first | refine XL_el tt_ok rfl (by assumption) rfl (by omega) (by omega) rfl rfl rfl rfl ?_ | refine XL_eloW tt_ok 2 rfl rfl rfl (by omega) (by omega) rfl rfl rfl rfl ?_ | refine XL_elof tt_ok 2 rfl rfl rfl (by omega) (by omega) rfl rfl rfl rfl ?_) | (refine XG_idx ?_; first | refine XL_idx tt_ok rfl rfl rfl rfl rfl (by assumption) (by omega) (by omega) rfl ?_ | refine XL_idxa tt_ok rfl rfl rfl rfl rfl (by decide) (by decide) rfl ?_ | refine XL_idxo tt_ok 2 rfl rfl rfl rfl rfl rfl (by omega) (by omega) rfl ?_) | (refine XG_call ?_; first | (refine XL_op tt_ok rfl rfl ?_) | refine XL_fn hw2 rfl rfl (fun _ _ _ => trivial) ?_ | (refine XL_callK [0, 0] hG rfl rfl (fun _ => rfl) (fun _ _ _ => trivial) (fun u L hv => ?_); obtain ⟨gs, hgs, rfl, rfl⟩ := hv) | (refine XL_callK [] hwo2 rfl rfl (fun _ => rfl) (fun g hg hL => rd_at 2 rfl hL) (fun u L hv => ?_); obtain ⟨A5, m5, c5, rfl, rfl⟩ := hv; refine XL_fact 0 rfl (fun _ o => (own_len o).1) (fun hm5 => ?_))) | (refine XL_op tt_ok (opV_shl rfl rfl (by omega)) rfl ?_; refine XL_int hshl ?_) | (refine XL_op tt_ok rfl rfl ?_; try (first | refine XL_int (wrap_i64 (by omega) (by omega)) ?_ | refine XL_dec_t (by omega) ?_))) | (refine X_id ?_; first | refine X_seq ?_ | (refine X_regionN (by repeat' (first | exact .nil | apply NL.cons)) ?_) | refine X_skip ?_ | refine X_cond_t rfl ?_ | refine X_cond_f rfl ?_) | (refine Y_id ?_; refine Y_then ?_))
          all_goals first
            | exact Y_again ⟨0, setN s.op a (2 ^ k) true, gs, updI s.tk (Cof.get s.hs (q : Int)).1 none, A5, m5, c5, s.hs.eraseIdx q, s.d - P⟩ fun _ _ hf hs => ⟨⟨hok.gave (by omega) e1 e2 htk hgs hk hP rfl, by show m5 ≤ s.i + 1; rw [hm5, List.length_eraseIdx_of_lt (by omega)]; omega⟩, hf.sub (by (repeat' (first | exact trivial | refine And.intro rfl ?_)); done), hs.imp fun g hg => stars_only [1, 1, 0, 1] rfl g hg⟩
            | (exfalso; omega)
            | skip
          
        · repeat' (first | (refine XL_id ?_; first | refine XL_nil ?_ | (refine XL_op tt_ok rfl rfl ?_; try (refine XL_dec_f (by omega) ?_))) | (refine X_id ?_; first | refine X_seq ?_ | (refine X_regionN (by repeat' (first | exact .nil | apply NL.cons)) ?_) | refine X_skip ?_ | refine X_cond_f rfl ?_) | (refine Y_id ?_; refine Y_then ?_))
          all_goals first
            | exact Y_again ⟨0, s.op, s.fs, s.tk, s.A, s.m, s.c, s.hs, s.d⟩ fun _ _ hf hs => ⟨⟨⟨hok.len, hok.b, hok.t, hok.h, hok.cv, hok.cd⟩, by show s.m ≤ s.i + 1; omega⟩, hf.sub (by (repeat' (first | exact trivial | refine And.intro rfl ?_)); done), hs⟩
            | (exfalso; omega)
            | skip
          
      · intro _
        refine Y_then ?_
        obtain ⟨hzo, hzm⟩ := hz
        have hzl := hzo.len
        have hzd := hzo.cd
        have hzc := cnt_le' z.op
        have hfr := free_is p N z.op z.fs z.tk (by omega) hzo.b
        by_cases hd0 : z.d = 0
        · have hwh := full_spec p N z.op z.fs z.tk hzl (by omega) hzo.b true ⟨fun _ => by omega, fun _ => rfl⟩
          repeat' (first | (refine XL_id ?_; first | refine XL_nil ?_ | refine XL_guard_yes rfl rfl rfl ?_ | (refine XG_call ?_; first | refine XL_callE [0] hfr rfl rfl rfl (fun _ _ _ => trivial) ?_ | refine XL_callE [0] hwh rfl rfl rfl (fun _ _ _ => trivial) ?_) | (refine XL_op tt_ok rfl rfl ?_; try (first | refine XL_int (wrap_i64 (by omega) (by omega)) ?_ | refine XL_dec_t (by omega) ?_ | refine XL_dec_f (by omega) ?_))) | (refine X_id ?_; first | refine X_seq ?_ | (refine X_regionN (by repeat' (first | exact .nil | apply NL.cons)) ?_) | refine X_skip ?_ | refine X_cond_f rfl ?_) | (refine Y_id ?_; first | refine Y_then ?_ | refine Y_block_normal ?_))
          all_goals first
            | exact Y_again ⟨s.i + 1, z.op, z.fs, z.tk, z.A, z.m, z.c, z.hs, z.d⟩ fun _ _ hf hs => ⟨⟨⟨hzo.len, hzo.b, hzo.t, hzo.h, hzo.cv, hzo.cd⟩, by show s.i + 1 ≤ m; omega, by show s.i + 1 ≤ 300; omega, hzm⟩, by show m - (s.i + 1) < m - s.i; omega, hf.sub (by (repeat' (first | exact trivial | refine And.intro rfl ?_)); done), hs⟩
            | (exfalso; omega)
            | skip
          
        · have hwh := full_spec p N z.op z.fs z.tk hzl (by omega) hzo.b false ⟨fun h => (by cases h), fun _ => by omega⟩
          repeat' (first | (refine XL_id ?_; first | refine XL_nil ?_ | refine XL_guard_yes rfl rfl rfl ?_ | (refine XG_call ?_; first | refine XL_callE [0] hfr rfl rfl rfl (fun _ _ _ => trivial) ?_ | refine XL_callE [0] hwh rfl rfl rfl (fun _ _ _ => trivial) ?_) | (refine XL_op tt_ok rfl rfl ?_; try (first | refine XL_int (wrap_i64 (by omega) (by omega)) ?_ | refine XL_dec_f (by omega) ?_))) | (refine X_id ?_; first | refine X_seq ?_ | (refine X_regionN (by repeat' (first | exact .nil | apply NL.cons)) ?_) | refine X_skip ?_ | refine X_cond_f rfl ?_) | (refine Y_id ?_; first | refine Y_then ?_ | refine Y_block_normal ?_))
          all_goals first
            | exact Y_again ⟨s.i + 1, z.op, z.fs, z.tk, z.A, z.m, z.c, z.hs, z.d⟩ fun _ _ hf hs => ⟨⟨⟨hzo.len, hzo.b, hzo.t, hzo.h, hzo.cv, hzo.cd⟩, by show s.i + 1 ≤ m; omega, by show s.i + 1 ≤ 300; omega, hzm⟩, by show m - (s.i + 1) < m - s.i; omega, hf.sub (by (repeat' (first | exact trivial | refine And.intro rfl ?_)); done), hs⟩
            | (exfalso; omega)
            | skip
          
  · repeat' (first | (refine XL_id ?_; first | refine XL_nil ?_ | refine XL_guard_yes rfl rfl rfl ?_ | refine XL_guard_no rfl rfl rfl rfl rfl ?_ | (refine XL_op tt_ok rfl rfl ?_; try (first | refine XL_dec_f (by omega) ?_ | refine XL_dec (fun _ => ?_) (fun _ => ?_)))) | (refine X_id ?_; first | refine X_block (id := 2) (hold ?_) | refine X_seq ?_ | (refine X_regionN (by repeat' (first | exact .nil | apply NL.cons)) ?_) | refine X_exit ?_ | refine X_cond_f rfl ?_) | (refine Y_id ?_; first | refine Y_then ?_ | refine Y_then_exit ?_ | refine Y_block_hit ?_))
    all_goals first
      | (exfalso; omega)
      | skip
    all_goals
      intro _
      refine X_loopD [2, 7, 9, 11] (fun (s : Ast) => [(20, .int .i64 s.i), (12, .slice s.A s.m s.c)]) (fun s => apM p p2 N (some ⟨pb, 0, none⟩) f1 s) (fun s => s.Ok N ∧ s.i + s.m ≤ 400) (fun s => s.m) ⟨0, s.op, s.fs, s.tk, s.A, s.m, s.c, s.hs, s.d⟩ rfl ⟨⟨hok.len, hok.b, hok.t, hok.h, hok.cv, hok.cd⟩, by show 0 + s.m ≤ 400; omega⟩ (by (repeat' (first | exact trivial | refine And.intro rfl ?_)); done) (fun h hs => hs) ?_
      clear hlt hi hi3 hmi hcl hcd hlen hok
      intro s hs
      obtain ⟨hok, hi4⟩ := hs
      have hlen := hok.len
      have hcd := hok.cd
      have hcl := cnt_le' s.op
      refine X_fact 2 rfl (fun _ o => (own_len o).1) fun hlm => ?_
      by_cases hm0 : 0 < s.m
      · by_cases hi2 : s.i < m2
        · have hxv := hl2 _ (get_mem' (l := l2) (i := (s.i : Int)) (by omega) (by omega))
          have hm1 := Int.emod_nonneg (Cof.get l2 (s.i : Int)) (show (s.m : Int) ≠ 0 by omega)
          have hm2 := Int.emod_lt_of_pos (Cof.get l2 (s.i : Int)) (show 0 < (s.m : Int) by omega)
          have hw2 := within_spec (Cof.get l2 (s.i : Int)) (s.m : Int) hxv.1 hxv.2 (by omega) (by omega)
          obtain ⟨q, hq⟩ : ∃ q : Nat, Cof.get l2 (s.i : Int) % (s.m : Int) = q := ⟨(Cof.get l2 (s.i : Int) % (s.m : Int)).toNat, by omega⟩
          rw [hq] at hw2 hm2
          obtain ⟨a, k, e1, e2, hk, htk⟩ := hok.held (q := q) (by omega)
          obtain ⟨P, hP⟩ : ∃ P, 2 ^ k = P := ⟨_, rfl⟩
          have hG := gave_spec p N s.fs s.tk (some ⟨pb, 0, none⟩) N s.op hlen (by omega) hok.b (Cof.get s.hs (q : Int)) a k e1 e2 hk htk
          have hwo2 := without_spec s.A s.m s.c s.hs (q : Int) (by omega)
          have hera : outI (q : Int) s.hs s.m = s.hs.eraseIdx q := by rw [outI_era (by omega), List.take_of_length_le (by omega)]
          rw [hera] at hwo2
          repeat' (first | (refine XL_id ?_; first | refine XL_nil ?_ | (refine XG_load ?_; first | refine XL_el tt_ok rfl (by assumption) rfl (by omega) (by omega) rfl rfl rfl rfl ?_ | refine XL_eloW tt_ok 2 rfl rfl rfl (by omega) (by omega) rfl rfl rfl rfl ?_) | (refine XG_idx ?_; first | refine XL_idx tt_ok rfl rfl rfl rfl rfl (by assumption) (by omega) (by omega) rfl ?_ | refine XL_idxo tt_ok 2 rfl rfl rfl rfl rfl rfl (by omega) (by omega) rfl ?_) | (refine XG_call ?_; first | (refine XL_op tt_ok rfl rfl ?_) | refine XL_fn hw2 rfl rfl (fun _ _ _ => trivial) ?_ | (refine XL_callK [0, 0] hG rfl rfl (fun _ => rfl) (fun _ _ _ => trivial) (fun u L hv => ?_); obtain ⟨gs, hgs, rfl, rfl⟩ := hv) | (refine XL_callK [] hwo2 rfl rfl (fun _ => rfl) (fun g hg hL => rd_at 2 rfl hL) (fun u L hv => ?_); obtain ⟨A5, m5, c5, rfl, rfl⟩ := hv; refine XL_fact 0 rfl (fun _ o => (own_len o).1) (fun hm5 => ?_))) | (refine XL_op tt_ok rfl rfl ?_; try (first | refine XL_int (wrap_i64 (by omega) (by omega)) ?_ | refine XL_dec_t (by omega) ?_))) | (refine X_id ?_; first | refine X_seq ?_ | (refine X_regionN (by repeat' (first | exact .nil | apply NL.cons)) ?_) | refine X_skip ?_ | refine X_block ?_ | refine X_cond_t rfl ?_ | refine X_cond_f rfl ?_) | (refine Y_id ?_; first | refine Y_then ?_ | refine Y_block_normal ?_))
          all_goals first
            | exact Y_again ⟨s.i + 1, setN s.op a (2 ^ k) true, gs, updI s.tk (Cof.get s.hs (q : Int)).1 none, A5, m5, c5, s.hs.eraseIdx q, s.d - P⟩ fun _ _ hf hs => ⟨⟨hok.gave (q := q) (by omega) e1 e2 htk hgs hk hP rfl, by show s.i + 1 + m5 ≤ 400; rw [hm5, List.length_eraseIdx_of_lt (by omega)]; omega⟩, by show m5 < s.m; rw [hm5, List.length_eraseIdx_of_lt (by omega)]; omega, hf.sub (by (repeat' (first | exact trivial | refine And.intro rfl ?_)); done), hs.imp fun g hg => stars_only [1, 1, 0, 1] rfl g hg⟩
            | (exfalso; omega)
            | skip
          
        · obtain ⟨a, k, e1, e2, hk, htk⟩ := hok.held (q := 0) (by omega)
          obtain ⟨P, hP⟩ : ∃ P, 2 ^ k = P := ⟨_, rfl⟩
          have hG := gave_spec p N s.fs s.tk (some ⟨pb, 0, none⟩) N s.op hlen (by omega) hok.b (Cof.get s.hs (0 : Int)) a k e1 e2 hk htk
          have hwo2 := without_spec s.A s.m s.c s.hs (0 : Int) (by omega)
          have hera : outI (0 : Int) s.hs s.m = s.hs.eraseIdx 0 := by rw [show (0 : Int) = ((0 : Nat) : Int) from rfl, outI_era (by omega), List.take_of_length_le (by omega)]
          rw [hera] at hwo2
          repeat' (first | (refine XL_id ?_; first | refine XL_nil ?_ | (refine XG_load ?_; refine XL_eloW tt_ok 2 rfl rfl rfl (by omega) (by omega) rfl rfl rfl rfl ?_) | (refine XG_idx ?_; refine XL_idxo tt_ok 2 rfl rfl rfl rfl rfl rfl (by omega) (by omega) rfl ?_) | (refine XG_call ?_; first | (refine XL_op tt_ok rfl rfl ?_) | (refine XL_callK [0, 0] hG rfl rfl (fun _ => rfl) (fun _ _ _ => trivial) (fun u L hv => ?_); obtain ⟨gs, hgs, rfl, rfl⟩ := hv) | (refine XL_callK [] hwo2 rfl rfl (fun _ => rfl) (fun g hg hL => rd_at 2 rfl hL) (fun u L hv => ?_); obtain ⟨A5, m5, c5, rfl, rfl⟩ := hv; refine XL_fact 0 rfl (fun _ o => (own_len o).1) (fun hm5 => ?_))) | (refine XL_op tt_ok rfl rfl ?_; try (first | refine XL_int (wrap_i64 (by omega) (by omega)) ?_ | refine XL_dec_t (by omega) ?_ | refine XL_dec_f (by omega) ?_))) | (refine X_id ?_; first | refine X_seq ?_ | (refine X_regionN (by repeat' (first | exact .nil | apply NL.cons)) ?_) | refine X_skip ?_ | refine X_block ?_ | refine X_cond_t rfl ?_ | refine X_cond_f rfl ?_) | (refine Y_id ?_; first | refine Y_then ?_ | refine Y_block_normal ?_))
          all_goals first
            | exact Y_again ⟨s.i + 1, setN s.op a (2 ^ k) true, gs, updI s.tk (Cof.get s.hs (0 : Int)).1 none, A5, m5, c5, s.hs.eraseIdx 0, s.d - P⟩ fun _ _ hf hs => ⟨⟨hok.gave (q := 0) (by omega) e1 e2 htk hgs hk hP rfl, by show s.i + 1 + m5 ≤ 400; rw [hm5, List.length_eraseIdx_of_lt (by omega)]; omega⟩, by show m5 < s.m; rw [hm5, List.length_eraseIdx_of_lt (by omega)]; omega, hf.sub (by (repeat' (first | exact trivial | refine And.intro rfl ?_)); done), hs.imp fun g hg => stars_only [1, 1, 0, 1] rfl g hg⟩
            | (exfalso; omega)
            | skip
          
      · have hnil : s.hs = [] := List.length_eq_zero_iff.1 (by omega)
        have hcv := hok.cv
        rw [hnil] at hcv
        have hall := hcv.none
        rw [hlen] at hall
        have hcn : cntB s.op = N := by rw [hall, cnt_all]
        have hli := lists_is p N s.fs s.tk
        have hli2 := lists_is p2 N f1 (fun _ => none)
        have hwh := full_spec p N s.op s.fs s.tk hlen (by omega) hok.b true ⟨fun _ => hcn, fun _ => rfl⟩
        have hbb := hok.b
        rw [hall] at hbb
        repeat' (first | (refine XL_id ?_; first | refine XL_nil ?_ | refine XL_guard_yes rfl rfl rfl ?_ | (refine XG_call ?_; first | (refine XL_op tt_ok rfl rfl ?_) | (refine XL_callK [0] hli rfl rfl (fun _ => rfl) (fun _ _ _ => trivial) (fun u L hv => ?_); obtain ⟨qa, hqa, rfl, rfl⟩ := hv; refine XL_fact 0 rfl (fun h hs => hs.1) (fun hfit => ?_); obtain ⟨hqa7, hqaf⟩ := hfit; refine XL_mem (fun h hs => isLl_flat hs) ?_; refine XL_fact 0 rfl (fun _ o => (own_len o).1) (fun hqal => ?_)) | (refine XL_callK [5] hli2 rfl rfl (fun _ => rfl) (fun _ _ _ => trivial) (fun u L hv => ?_); obtain ⟨qb, hqb, rfl, rfl⟩ := hv; refine XL_fact 0 rfl (fun h hs => hs.1) (fun hfit => ?_); obtain ⟨hqb7, hqbf⟩ := hfit; refine XL_mem (fun h hs => isLl_flat hs) ?_; refine XL_fact 0 rfl (fun _ o => (own_len o).1) (fun hqbl => ?_)) | refine XL_callE [5] hwh rfl rfl rfl (fun _ _ _ => trivial) ?_) | (refine XL_op tt_ok rfl rfl ?_; try (refine XL_dec_f (by omega) ?_))) | (refine X_id ?_; first | refine X_block (id := 4) (hold ?_) | refine X_seq ?_ | (refine X_regionN (by repeat' (first | exact .nil | apply NL.cons)) ?_) | refine X_skip ?_ | refine X_exit ?_ | refine X_cond_f rfl ?_) | (refine Y_id ?_; first | refine Y_then ?_ | refine Y_then_exit ?_ | refine Y_block_hit ?_))
        all_goals first
          | (exfalso; omega)
          | skip
        intro _
        refine X_loopD [22, 23] (fun (j : Nat) => [(24, .int .i64 j)]) (fun _ => [own (encIn Int) qa.A qa.m qa.c qa.xs, allI encN qa.xs, own (encIn Int) qb.A qb.m qb.c qb.xs, allI encN qb.xs]) (fun j => j ≤ 7) (fun j => 7 - j) 0 rfl (Nat.zero_le _) (by (repeat' (first | exact trivial | refine And.intro rfl ?_)); done) (stars_only [4, 4, 1, 1] rfl) ?_
        intro j hj
        have hj : j ≤ 7 := hj
        by_cases hjl : j < 7
        · have hxa := row_at hqa hbb rfl (j := j) hjl
          have hxb := row_at hqb hb1 rfl (j := j) hjl
          have hm1 := hqaf _ (get_mem' (l := qa.xs) (i := (j : Int)) (by omega) (by omega))
          have hm2 := hqbf _ (get_mem' (l := qb.xs) (i := (j : Int)) (by omega) (by omega))
          have heq := eqInts_spec (Cof.get qa.xs (j : Int)).A (Cof.get qb.xs (j : Int)).A (Cof.get qa.xs (j : Int)).m (Cof.get qa.xs (j : Int)).c (Cof.get qb.xs (j : Int)).m (Cof.get qb.xs (j : Int)).c (Cof.get qa.xs (j : Int)).xs (Cof.get qb.xs (j : Int)).xs (by omega) (by omega)
          repeat' (first | (refine XL_id ?_; first | refine XL_nil ?_ | (refine XG_call ?_; first | (refine XL_op tt_ok rfl rfl ?_) | (refine XL_fn heq rfl rfl (fun g hg hL => ⟨(allI_at 1 rfl hM (by omega) rfl).le hg, (allI_at 3 rfl hM (by omega) rfl).le hg⟩) ?_; refine XL_dec_t (by rw [hxa, hxb]) ?_)) | (refine XL_op tt_ok rfl rfl ?_; try (first | refine XL_int (wrap_i64 (by omega) (by omega)) ?_ | refine XL_dec_t (by omega) ?_))) | (refine XD_id ?_; first | (refine XD_thaw thaw ?_; refine XD_nil ?_) | (refine XD_id ?_; (first | (refine XD_uL rfl ?_; first | refine XD_s rfl rfl rfl (XV_el tt_ok rfl (rd_at 0 rfl hM) rfl (by omega) (by omega) rfl rfl rfl) rfl ?_ | refine XD_s rfl rfl rfl (XV_el tt_ok rfl (rd_at 2 rfl hM) rfl (by omega) (by omega) rfl rfl rfl) rfl ?_) | (refine XD_uI rfl ?_; first | refine XD_s rfl rfl rfl (XV_idx tt_ok rfl rfl rfl rfl rfl (rd_at 0 rfl hM) (by omega) (by omega)) rfl ?_ | refine XD_s rfl rfl rfl (XV_idx tt_ok rfl rfl rfl rfl rfl (rd_at 2 rfl hM) (by omega) (by omega)) rfl ?_) | (refine XD_u rfl rfl ?_; refine XD_s rfl rfl rfl (XV_op tt_ok rfl) rfl ?_))) | refine XD_m rfl rfl ?_) | (refine X_id ?_; first | (refine X_drawS (id := 48) [0, 1, 2, 3, 4, 5, 6, 7, 8, 9] (fun | 8 => .m | _ => .s) 8 (by (repeat apply Split.blk); apply Split.frz; (repeat apply Split.blk); apply Split.frz; (repeat apply Split.blk); apply Split.frz; (repeat apply Split.blk); apply Split.frz; repeat' (exact Split.nil)) mixed (by decide +kernel) ?_; intro G hFG hM thaw; show XD _ _ _ _ _ _ [0, 1, 2, 3, 4, 5, 6, 7, 8, 9] _ _ _) | refine X_seq ?_ | (refine X_regionN (by repeat' (first | exact .nil | apply NL.cons)) ?_) | refine X_skip ?_ | refine X_block ?_ | refine X_cond_t rfl ?_ | refine X_cond_f rfl ?_) | (refine Y_id ?_; first | refine Y_then ?_ | refine Y_block_normal ?_ | refine Y_m ?_))
          all_goals first
            | exact Y_again (j + 1) fun _ _ hf hs => ⟨by show j + 1 ≤ 7; omega, by show 7 - (j + 1) < 7 - j; omega, hf.sub (by (repeat' (first | exact trivial | refine And.intro rfl ?_)); done), hs⟩
            | (exfalso; omega)
            | skip
          
        · repeat' (first | (refine XL_id ?_; first | refine XL_nil ?_ | (refine XL_op tt_ok rfl rfl ?_; try (refine XL_dec_f (by omega) ?_))) | (refine X_id ?_; first | refine X_seq ?_ | (refine X_regionN (by repeat' (first | exact .nil | apply NL.cons)) ?_) | refine X_ret ?_ | refine X_exit ?_ | refine X_cond_f rfl ?_) | (refine Y_id ?_; first | refine Y_then ?_ | refine Y_then_exit ?_ | refine Y_block_hit ?_))
          all_goals first
            | exact Y_fn1 rfl rfl rfl
            | (exfalso; omega)
            | skip
          
end Go.Proofs.Ytkcpjgdmfjhlkaa
