/- The law SpaceTells, walked. -/
import Derived.Test.YtalkcemelegohaaLf
import Derived.Test.YtalkcemelegohaaLb
import Derived.Test.YtalkcemelegohaaSp
set_option linter.unusedVariables false
set_option maxRecDepth 100000
namespace Go.Proofs.Ytalkcemelegohaa
open Go.RowKit Go.Cof
open Vm (Rg encRg rgV)

structure Ty where
  a : Int
  s : Int
  w : Bool
deriving Inhabited
def encTy : Enc Ty := ⟨fun x => [uV x.a, iV x.s, .bool x.w], 3, fun _ => rfl, by decide, fun x u hu => by simp at hu; rcases hu with rfl | rfl | rfl <;> rfl⟩
structure Ty.In (x : Ty) : Prop where
  a : Ad.u64In x.a
  s : Ad.i64In x.s
/-- A space with marked room behind its list. -/
structure Zok (z : Sv) : Prop where
  ok : z.Ok
  room : z.m + 5 ≤ z.c
def qOf (z : Sv) : In Rg := ⟨z.A, z.m + 5, z.c, z.l ++ marks⟩
theorem ins_full {zs : List Sv} (k : Nat) {L : List HProp} (hk : L[k]? = some (allI encRg (zs.map qOf))) {g : Hp} (h : stars L g) {i : Nat} (hi : i < zs.length) : rdS encRg g (Cof.get zs (i : Int)).A ((Cof.get zs (i : Int)).m + 5) ((Cof.get zs (i : Int)).l ++ marks) := by
  obtain ⟨_, hl, hb⟩ := at_mem k hk h
  have hi' : i < (zs.map qOf).length := by rw [List.length_map]; exact hi
  have e : Cof.get (zs.map qOf) (i : Int) = qOf (Cof.get zs (i : Int)) := by rw [get_getElem hi', List.getElem_map, get_getElem hi]
  have := allI_rd hb hi'
  rw [e] at this
  exact this.le hl
theorem ins_one {zs : List Sv} (hz : ∀ z ∈ zs, Zok z) (k : Nat) {L : List HProp} (hk : L[k]? = some (allI encRg (zs.map qOf))) {g : Hp} (h : stars L g) {i : Nat} (hi : i < zs.length) : rdS encRg g (Cof.get zs (i : Int)).A (Cof.get zs (i : Int)).m (Cof.get zs (i : Int)).l := by
  have h1 := (ins_full k hk h hi).take (Cof.get zs (i : Int)).m (by omega)
  have h2 := (hz _ (Vm.get_mem (l := zs) (i := (i : Int)) (by omega) (by omega))).ok.len
  have e : ((Cof.get zs (i : Int)).l ++ marks).take (Cof.get zs (i : Int)).m = (Cof.get zs (i : Int)).l := by rw [h2, List.take_left]
  rw [e] at h1
  exact h1
theorem ins_R {zs : List Sv} (hz : ∀ z ∈ zs, Zok z) {A : Option Addr} {m c : Nat} (k0 k : Nat) {L : List HProp} (hk0 : L[k0]? = some (own encSv A m c zs)) (hk : L[k]? = some (allI encRg (zs.map qOf))) {g : Hp} (h : stars L g) : SvsR g A m zs :=
  ⟨rd_at k0 hk0 h, fun s hs => by
    obtain ⟨i, hi, rfl⟩ := List.getElem_of_mem hs
    have := ins_one hz k hk h hi
    rwa [get_getElem hi] at this⟩
theorem key_at {ss zs : List Sv} (h : zs.map key = ss.map key) {i : Nat} (hi : i < ss.length) : (Cof.get zs (i : Int)).l = (Cof.get ss (i : Int)).l ∧ (Cof.get zs (i : Int)).h = (Cof.get ss (i : Int)).h := by
  have hl : zs.length = ss.length := by simpa using congrArg List.length h
  have e : (zs.map key)[i]'(by rw [List.length_map]; omega) = (ss.map key)[i]'(by rw [List.length_map]; omega) := by simp only [h]
  rw [List.getElem_map, List.getElem_map] at e
  rw [get_getElem hi, get_getElem (show i < zs.length by omega)]
  exact ⟨congrArg Prod.fst e, congrArg Prod.snd e⟩
def needsP (l : List Rg) (h : Int) : Nd × Int := if scheck l h = 0 then (⟨1, pagesN l, tablesN l, l.length⟩, 0) else (⟨0, 0, 0, 0⟩, scheck l h)
theorem needs_ns (l : List Rg) (h : Int) : needsR l h = nsV (needsP l h) := by
  unfold needsR needsP
  split <;> rfl
set_option maxHeartbeats 32000000 in
theorem spaceTells_walk (A : Option Addr) (m c : Nat) (ss : List Sv) (A' : Option Addr) (m' c' : Nat) (ts : List Ty) (hm : m ≤ 4398046511104) (hm' : m' ≤ 9223372036854775807) (hS : ∀ s ∈ ss, s.Ok) (hT : ∀ t ∈ ts, t.In) :
    FnC Try.prog 5 [.slice A m c, .slice A' m' c'] (fun g => SvsR g A m ss ∧ rdS encTy g A' m' ts) (.bool true) := by
  have hq := qsum_spec A m c ss (by omega) hS
  refine Ctr.intro Try.func5 rfl rfl (by decide +kernel) fun F hpre => ?_
  have r0 : SvsR F.heap A m ss := hpre.1
  have r2 : rdS encTy F.heap A' m' ts := hpre.2
  have r1 := r0.rd
  have hlen := r1.1
  have hlen2 := r2.1
  repeat' (first | (refine XL_id ?_; first | refine XL_nil ?_ | (refine XL_op tt_ok rfl rfl ?_)) | (refine X_id ?_; first | refine X_seq ?_ | (refine X_regionN (by repeat' (exact .nil)) ?_) | refine X_block ?_) | (refine Y_id ?_; refine Y_then ?_))
  refine X_loopD4 [0, 1] (fun (i : Nat) (B : Option Addr) (k : Nat) (zs : List Sv) => [(6, .int .i64 i), (5, .slice B i k)]) (fun i B k zs => [own encSv B i k zs, allI encRg (zs.map qOf)]) (fun i B k zs => i ≤ m ∧ zs.map key = (ss.take i).map key ∧ ∀ z ∈ zs, Zok z) (fun i _ _ _ => m - i) 0 none 0 [] rfl ⟨Nat.zero_le _, rfl, fun z hz => by cases hz⟩ (by (repeat' (first | exact trivial | refine And.intro rfl ?_)); done) (fun h hs => stars_new (own_nil encSv _) (stars_new (allI_nil _) trivial)) ?_
  intro i B k zs hi
  obtain ⟨hi, hkey, hzok⟩ := hi
  by_cases hlt : i < m
  · have hmem := Vm.get_mem (l := ss) (i := (i : Int)) (by omega) (by omega)
    have hok := hS _ hmem
    have hsub := r0.sub _ hmem
    have hspare := spare_spec (Cof.get ss (i : Int)).A (Cof.get ss (i : Int)).m (Cof.get ss (i : Int)).c (Cof.get ss (i : Int)).l (Cof.get ss (i : Int)).h hok.m
    repeat' (first | (refine XL_id ?_; first | refine XL_nil ?_ | (refine XG_load ?_; refine XL_elW tt_ok rfl (by assumption) rfl (by omega) (by omega) rfl rfl rfl rfl ?_) | (refine XG_idx ?_; refine XL_idx tt_ok rfl rfl rfl rfl rfl (by assumption) (by omega) (by omega) rfl ?_) | (refine XG_call ?_; first | (refine XL_op tt_ok rfl rfl ?_) | (refine XL_callK [] hspare rfl rfl (fun _ => rfl) (fun g hg hL => hsub.le hg) (fun u L hv => ?_); obtain ⟨A6, c6, rfl, hc6, rfl⟩ := hv) | (refine XL_app1 (E := encSv) tt_ok 2 0 (⟨A6, (Cof.get ss (i : Int)).m, c6, (Cof.get ss (i : Int)).l, (Cof.get ss (i : Int)).h⟩ : Sv) rfl rfl rfl rfl rfl rfl rfl rfl rfl rfl rfl (by show (_ : Nat) * 32 ≤ _; omega) (by omega) (fun _ _ => rfl) (fun B2 k2 => ?_))) | (refine XG_lit ?_; (refine XL_lit tt_ok rfl rfl rfl rfl rfl rfl rfl rfl rfl (fun _ => rfl) (fun b => ?_); refine XL_nB (by repeat' (first | exact .nil | apply NL.cons)) ?_)) | (refine XL_op tt_ok rfl rfl ?_; try (first | refine XL_int (wrap_i64 (by omega) (by omega)) ?_ | refine XL_dec_t (by omega) ?_))) | (refine X_id ?_; first | refine X_seq ?_ | (refine X_regionN (by repeat' (first | exact .nil | apply NL.cons)) ?_) | refine X_skip ?_ | refine X_block ?_ | refine X_cond_t rfl ?_) | (refine Y_id ?_; first | refine Y_then ?_ | refine Y_block_normal ?_))
    all_goals first
      | exact Y_again (i + 1, B2, k2, zs ++ [⟨A6, (Cof.get ss (i : Int)).m, c6, (Cof.get ss (i : Int)).l, (Cof.get ss (i : Int)).h⟩]) fun _ _ hf hs => ⟨⟨by show i + 1 ≤ m; omega, by
          rw [List.map_append, hkey, Vm.take_snoc ss i (by omega), List.map_append]; rfl, fun z hz => by
          rcases List.mem_append.1 hz with hz | hz
          · exact hzok z hz
          · obtain rfl := List.mem_singleton.1 hz
            exact ⟨⟨hok.len, hok.m, by show (Cof.get ss (i : Int)).m ≤ c6; omega, hok.all⟩, hc6⟩⟩, by show m - (i + 1) < m - i; omega, hf.sub (by (repeat' (first | exact trivial | refine And.intro rfl ?_)); done), hs.imp fun h hs => by
          have h1 := stars_take [1, 2, 1] rfl hs
          have h2 := allI_snoc (q := qOf ⟨A6, (Cof.get ss (i : Int)).m, c6, (Cof.get ss (i : Int)).l, (Cof.get ss (i : Int)).h⟩) (l := zs.map qOf) h1
          have h3 := stars_only [1, 0] rfl _ h2
          rw [List.map_append]; exact h3⟩
      | (exfalso; omega)
      | skip
    
  · rw [List.take_of_length_le (by omega)] at hkey
    obtain rfl : i = m := by omega
    have hzl : zs.length = ss.length := by simpa using congrArg List.length hkey
    have hp := sum_spec B i k zs (by omega) (fun z hz => (hzok z hz).ok)
    rw [hkey] at hp
    obtain ⟨⟨nd, e⟩, hX⟩ : ∃ X, sumR (ss.map key) = X := ⟨_, rfl⟩
    rw [hX] at hp hq
    have hp : FnC Try.prog 21 [.slice B i k] (fun g => SvsR g B i zs) (.tuple #[ndV nd.a nd.b nd.c nd.d, iV e]) := hp
    have hq : FnC Try.prog 22 [.slice A i c] (fun g => SvsR g A i ss) (.tuple #[ndV nd.a nd.b nd.c nd.d, iV e]) := hq
    repeat' (first | (refine XL_id ?_; first | refine XL_nil ?_ | (refine XG_call ?_; first | (refine XL_op tt_ok rfl rfl ?_) | refine XL_fn hp rfl rfl (fun g hg hL => ins_R hzok 0 1 rfl rfl hL) ?_) | (refine XG_alloc ?_; (refine XL_alloc tt_ok rfl rfl (fun _ => rfl) (fun b7 => ?_); refine XL_nB (by repeat' (first | exact .nil | apply NL.cons)) ?_)) | (refine XG_store ?_; (refine XL_storeW tt_ok 0 rfl rfl rfl rfl rfl rfl rfl ?_; refine XL_nK 0 rfl (by repeat' (first | exact .nil | apply NL.cons)) ?_)) | (refine XL_op tt_ok rfl rfl ?_; try (refine XL_dec_f (by omega) ?_))) | (refine X_id ?_; first | (refine X_regionN (id := 7) (by repeat' (first | exact .nil | apply NL.cons)) (hold ?_)) | refine X_seq ?_ | (refine X_regionN (by repeat' (first | exact .nil | apply NL.cons)) ?_) | refine X_exit ?_ | refine X_cond_f rfl ?_) | (refine Y_id ?_; first | refine Y_then ?_ | refine Y_then_exit ?_ | refine Y_block_hit ?_))
    intro _
    repeat' (first | (refine XL_id ?_; first | refine XL_nil ?_ | refine XL_guard_yes rfl rfl rfl ?_ | (refine XL_neq (a := nd) (b := nd) eqNd rfl rfl rfl ?_; refine XL_dec_f (fun h => h rfl) ?_) | (refine XG_load ?_; first | refine XL_loadW tt_ok 0 rfl rfl rfl rfl rfl rfl ?_ | refine XL_loadW tt_ok 1 rfl rfl rfl rfl rfl rfl ?_) | (refine XG_call ?_; refine XL_fn hq rfl rfl (fun g hg hL => r0.le hg) ?_) | (refine XG_alloc ?_; (refine XL_alloc tt_ok rfl rfl (fun _ => rfl) (fun b9 => ?_); refine XL_nB (by repeat' (first | exact .nil | apply NL.cons)) ?_)) | (refine XG_store ?_; (refine XL_storeW tt_ok 0 rfl rfl rfl rfl rfl rfl rfl ?_; refine XL_nK 0 rfl (by repeat' (first | exact .nil | apply NL.cons)) ?_)) | (refine XL_op tt_ok rfl rfl ?_; try (refine XL_dec_f (by omega) ?_))) | (refine X_id ?_; first | refine X_block (id := 2) (hold ?_) | refine X_seq ?_ | (refine X_regionN (by repeat' (first | exact .nil | apply NL.cons)) ?_) | refine X_skip ?_ | refine X_cond_f rfl ?_) | (refine Y_id ?_; refine Y_then ?_))
    all_goals first
      | (rename_i h9; exact absurd rfl h9)
      | skip
    intro _
    refine X_loopD2 [0, 1, 5, 7, 9] (fun (j : Nat) (a : Nd) => [(11, .int .i64 j)]) (fun _ a => [blk b7 [iV a.a, iV a.b, iV a.c, iV a.d] 45, blk b9 [iV a.a, iV a.b, iV a.c, iV a.d] 45, own encSv B i k zs, allI encRg (zs.map qOf)]) (fun j a => j ≤ i) (fun j _ => i - j) 0 nd rfl (Nat.zero_le _) (by (repeat' (first | exact trivial | refine And.intro rfl ?_)); done) (fun h hs => by first | exact hs | exact stars_only [1, 0, 0, 0] rfl h hs) ?_
    intro j a hj
    replace hj : j ≤ i := hj
    by_cases hlt2 : j < i ∧ j < 20
    · obtain ⟨hlt2, h20⟩ := hlt2
      have hmem := Vm.get_mem (l := ss) (i := (j : Int)) (by omega) (by omega)
      have hmemz := Vm.get_mem (l := zs) (i := (j : Int)) (by omega) (by omega)
      have hok := hS _ hmem
      have hokz := hzok _ hmemz
      have hsub := r0.sub _ hmem
      obtain ⟨e1, e2⟩ := key_at hkey (i := j) (by omega)
      have hz1 := hokz.ok.len
      have hz2 := hok.len
      have hz3 := hokz.room
      have hz4 := hok.m
      have hmm : (Cof.get zs (j : Int)).m = (Cof.get ss (j : Int)).m := by rw [hz1, hz2, e1]
      have hn1 := needs_spec (Cof.get zs (j : Int)).A (Cof.get zs (j : Int)).m (Cof.get zs (j : Int)).c (Cof.get zs (j : Int)).l (Cof.get zs (j : Int)).h (by omega) hokz.ok.all
      have hn2 := qneeds_spec (Cof.get ss (j : Int)).A (Cof.get ss (j : Int)).m (Cof.get ss (j : Int)).c (Cof.get ss (j : Int)).l (Cof.get ss (j : Int)).h (by omega) hok.all
      rw [show needsR (Cof.get zs (j : Int)).l (Cof.get zs (j : Int)).h = needsR (Cof.get ss (j : Int)).l (Cof.get ss (j : Int)).h from by rw [e1, e2]] at hn1
      rw [needs_ns] at hn1 hn2
      obtain ⟨⟨n2, er⟩, hX2⟩ : ∃ X, needsP (Cof.get ss (j : Int)).l (Cof.get ss (j : Int)).h = X := ⟨_, rfl⟩
      rw [hX2] at hn1 hn2
      have hn1 : FnC Try.prog 23 _ _ (.tuple #[ndV n2.a n2.b n2.c n2.d, iV er]) := hn1
      have hn2 : FnC Try.prog 24 _ _ (.tuple #[ndV n2.a n2.b n2.c n2.d, iV er]) := hn2
      have hkp := kept_spec (Cof.get zs (j : Int)).A (Cof.get ss (j : Int)).A (Cof.get zs (j : Int)).m (Cof.get zs (j : Int)).c (Cof.get ss (j : Int)).m (Cof.get ss (j : Int)).c (Cof.get ss (j : Int)).l (Cof.get zs (j : Int)).h (Cof.get ss (j : Int)).h hz4 (by omega)
      have hrz : ∀ (k : Nat) {L : List HProp} (hk : L[k]? = some (allI encRg (zs.map qOf))) {g : Hp} (h : stars L g), rdS encRg g (Cof.get zs (j : Int)).A ((Cof.get ss (j : Int)).m + 5) ((Cof.get ss (j : Int)).l ++ marks) := fun k L hk g h => by
        have := ins_full k hk h (i := j) (by omega)
        rwa [e1, hmm] at this
      repeat' (first | (refine XL_id ?_; first | refine XL_nil ?_ | refine XL_guard_yes rfl rfl rfl ?_ | (refine XL_neq (a := n2) (b := n2) eqNd rfl rfl rfl ?_; refine XL_dec_f (fun h => h rfl) ?_) | (refine XG_load ?_; first | refine XL_loadW tt_ok 0 rfl rfl rfl rfl rfl rfl ?_ | refine XL_loadW tt_ok 1 rfl rfl rfl rfl rfl rfl ?_ | refine XL_elW tt_ok rfl (by assumption) rfl (by omega) (by omega) rfl rfl rfl rfl ?_ | refine XL_eloW tt_ok 2 rfl rfl rfl (by omega) (by omega) rfl rfl rfl rfl ?_) | (refine XG_idx ?_; first | refine XL_idx tt_ok rfl rfl rfl rfl rfl (by assumption) (by omega) (by omega) rfl ?_ | refine XL_idxo tt_ok 2 rfl rfl rfl rfl rfl rfl (by omega) (by omega) rfl ?_) | (refine XG_call ?_; first | (refine XL_op tt_ok rfl rfl ?_) | refine XL_fn hn1 rfl rfl (fun g hg hL => ins_one hzok 3 rfl hL (by omega)) ?_ | refine XL_fn hn2 rfl rfl (fun g hg hL => hsub.le hg) ?_) | (refine XG_store ?_; first | (refine XL_storeW tt_ok 0 rfl rfl rfl rfl rfl rfl rfl ?_; refine XL_nK 0 rfl (by repeat' (first | exact .nil | apply NL.cons)) ?_) | (refine XL_storeW tt_ok 1 rfl rfl rfl rfl rfl rfl rfl ?_; refine XL_nK 1 rfl (by repeat' (first | exact .nil | apply NL.cons)) ?_)) | (refine XL_op tt_ok rfl rfl ?_; try (first | refine XL_dec_t (by omega) ?_ | refine XL_dec_f (by omega) ?_))) | (refine X_id ?_; first | refine X_block (id := 4) (hold ?_) | refine X_seq ?_ | (refine X_regionN (by repeat' (first | exact .nil | apply NL.cons)) ?_) | refine X_skip ?_ | refine X_block ?_ | refine X_cond_t rfl ?_ | refine X_cond_f rfl ?_) | (refine Y_id ?_; refine Y_then ?_))
      all_goals first
        | (rename_i h9; exact absurd rfl h9)
        | skip
      intro _
      refine X_loopD [0, 1, 5, 7, 8, 9, 10, 11] (fun (q : Nat) => [(12, .int .i64 q)]) (fun _ => [blk b7 [iV n2.a, iV n2.b, iV n2.c, iV n2.d] 45, blk b9 [iV n2.a, iV n2.b, iV n2.c, iV n2.d] 45, own encSv B i k zs, allI encRg (zs.map qOf)]) (fun q => q ≤ m') (fun q => m' - q) 0 rfl (Nat.zero_le _) (by (repeat' (first | exact trivial | refine And.intro rfl ?_)); done) (fun h hs => hs) ?_
      intro q hq9
      replace hq9 : q ≤ m' := hq9
      by_cases hlt3 : q < m' ∧ q < 30
      · obtain ⟨hlt3, h30⟩ := hlt3
        have htm := hT _ (Vm.get_mem (l := ts) (i := (q : Int)) (by omega) (by omega))
        have ha1 := access_spec (Cof.get zs (j : Int)).A (Cof.get zs (j : Int)).m (Cof.get zs (j : Int)).c (Cof.get zs (j : Int)).l (Cof.get zs (j : Int)).h (Cof.get ts (q : Int)).a (Cof.get ts (q : Int)).s (Cof.get ts (q : Int)).w (by omega) hokz.ok.all htm.a htm.s
        have ha2 := qaccess_spec (Cof.get ss (j : Int)).A (Cof.get ss (j : Int)).m (Cof.get ss (j : Int)).c (Cof.get ss (j : Int)).l (Cof.get ss (j : Int)).h (Cof.get ts (q : Int)).a (Cof.get ts (q : Int)).s (Cof.get ts (q : Int)).w (by omega) hok.all htm.a htm.s
        rw [show accF (Cof.get zs (j : Int)).l (Cof.get zs (j : Int)).h (Cof.get ts (q : Int)).a (Cof.get ts (q : Int)).s (Cof.get ts (q : Int)).w = accF (Cof.get ss (j : Int)).l (Cof.get ss (j : Int)).h (Cof.get ts (q : Int)).a (Cof.get ts (q : Int)).s (Cof.get ts (q : Int)).w from by rw [e1, e2]] at ha1
        obtain ⟨ae, hae⟩ : ∃ x, accF (Cof.get ss (j : Int)).l (Cof.get ss (j : Int)).h (Cof.get ts (q : Int)).a (Cof.get ts (q : Int)).s (Cof.get ts (q : Int)).w = x := ⟨_, rfl⟩
        rw [hae] at ha1 ha2
        repeat' (first | (refine XL_id ?_; first | refine XL_nil ?_ | refine XL_guard_yes rfl rfl rfl ?_ | (refine XG_load ?_; refine XL_elW tt_ok rfl (by assumption) rfl (by omega) (by omega) rfl rfl rfl rfl ?_) | (refine XG_idx ?_; refine XL_idx tt_ok rfl rfl rfl rfl rfl (by assumption) (by omega) (by omega) rfl ?_) | (refine XG_call ?_; first | (refine XL_op tt_ok rfl rfl ?_) | (refine XL_fn ha1 rfl rfl (fun g hg hL => by exact (ins_one hzok 4 rfl hM (by omega)).le hg) ?_) | (refine XL_fn ha2 rfl rfl (fun g hg hL => hsub.le (Hp.le.trans (by exact hFG) hg)) ?_)) | (refine XG_alloc ?_; (refine XL_alloc tt_ok rfl rfl (fun _ => rfl) (fun b => ?_); refine XL_nB (by repeat' (first | exact .nil | apply NL.cons)) ?_)) | (refine XG_store ?_; (refine XL_storeW tt_ok 0 rfl rfl rfl rfl rfl rfl rfl ?_; refine XL_nK 0 rfl (by repeat' (first | exact .nil | apply NL.cons)) ?_)) | (refine XL_op tt_ok rfl rfl ?_; try (first | refine XL_int (wrap_i64 (by omega) (by omega)) ?_ | refine XL_dec_t (by omega) ?_))) | (refine XD_id ?_; first | (refine XD_thaw thaw ?_; refine XD_nil ?_) | (refine XD_id ?_; (first | (refine XD_uL rfl ?_; first | refine XD_s rfl rfl rfl (XV_load tt_ok rfl (blk_at 0 rfl hM) rfl rfl rfl) rfl ?_ | refine XD_s rfl rfl rfl (XV_elW tt_ok rfl (rdS.le (by assumption) hFG) rfl (by omega) (by omega) rfl rfl rfl) rfl ?_ | refine XD_s rfl rfl rfl (XV_elW tt_ok rfl (rd_at 3 rfl hM) rfl (by omega) (by omega) rfl rfl rfl) rfl ?_) | (refine XD_uI rfl ?_; first | refine XD_s rfl rfl rfl (XV_idx tt_ok rfl rfl rfl rfl rfl (rdS.le (by assumption) hFG) (by omega) (by omega)) rfl ?_ | refine XD_s rfl rfl rfl (XV_idx tt_ok rfl rfl rfl rfl rfl (rd_at 3 rfl hM) (by omega) (by omega)) rfl ?_) | (refine XD_u rfl rfl ?_; refine XD_s rfl rfl rfl (XV_op tt_ok rfl) rfl ?_)); try (refine XD_dec_f (by omega) ?_)) | refine XD_m rfl rfl ?_) | (refine X_id ?_; first | (refine X_drawS (id := 21) [0, 1, 2, 3, 4, 5, 6, 7, 8, 9, 11, 12, 13, 14, 15, 16, 17, 18, 19, 20, 10, 21, 22] (fun | 10 => .m | 21 => .m | _ => .s) 8 (by (repeat apply Split.blk); apply Split.frz; (repeat apply Split.blk); apply Split.frz; repeat' (exact Split.nil)) mixed (by decide +kernel) ?_; intro G hFG hM thaw; show XD _ _ _ _ _ _ [0, 1, 2, 3, 4, 5, 6, 7, 8, 9, 11, 12, 13, 14, 15, 16, 17, 18, 19, 20, 10, 21, 22] _ _ _) | refine X_seq ?_ | (refine X_regionN (by repeat' (first | exact .nil | apply NL.cons)) ?_) | refine X_skip ?_ | refine X_block ?_ | refine X_cond_t rfl ?_ | refine X_cond_f rfl ?_) | (refine Y_id ?_; first | refine Y_then ?_ | refine Y_block_normal ?_ | refine Y_m ?_))
        all_goals first
          | exact Y_again (q + 1) fun _ _ hf hs => ⟨by show q + 1 ≤ m'; omega, by show m' - (q + 1) < m' - q; omega, hf.sub (by (repeat' (first | exact trivial | refine And.intro rfl ?_)); done), hs.imp fun h hs => by first | exact stars_only [3, 2, 0, 0] rfl h hs | exact stars_only [2, 2, 0, 0] rfl h hs | exact stars_only [3, 3, 0, 0] rfl h hs | exact stars_only [1, 1, 1, 1] rfl h hs⟩
          | (rename_i h9; exact absurd rfl h9)
          | (exfalso; omega)
          | skip
        
      · repeat' (first | (refine XL_id ?_; first | refine XL_nil ?_ | refine XL_guard_yes rfl rfl rfl ?_ | refine XL_guard_no rfl rfl rfl rfl rfl ?_ | (refine XG_call ?_; first | (refine XL_op tt_ok rfl rfl ?_) | (refine XL_fn hkp rfl rfl (fun g hg hL => ⟨by exact (hrz 3 rfl hM).le hg, hsub.le (Hp.le.trans (by exact hFG) hg)⟩) ?_)) | (refine XL_op tt_ok rfl rfl ?_; try (first | refine XL_int (wrap_i64 (by omega) (by omega)) ?_ | refine XL_dec_f (by omega) ?_ | refine XL_dec (fun _ => ?_) (fun _ => ?_)))) | (refine XD_id ?_; first | (refine XD_thaw thaw ?_; refine XD_nil ?_) | (refine XD_id ?_; (first | (refine XD_uL rfl ?_; first | refine XD_s rfl rfl rfl (XV_elW tt_ok rfl (rdS.le (by assumption) hFG) rfl (by omega) (by omega) rfl rfl rfl) rfl ?_ | refine XD_s rfl rfl rfl (XV_elW tt_ok rfl (rd_at 2 rfl hM) rfl (by omega) (by omega) rfl rfl rfl) rfl ?_) | (refine XD_uI rfl ?_; first | refine XD_s rfl rfl rfl (XV_idx tt_ok rfl rfl rfl rfl rfl (rdS.le (by assumption) hFG) (by omega) (by omega)) rfl ?_ | refine XD_s rfl rfl rfl (XV_idx tt_ok rfl rfl rfl rfl rfl (rd_at 2 rfl hM) (by omega) (by omega)) rfl ?_) | (refine XD_u rfl rfl ?_; refine XD_s rfl rfl rfl (XV_op tt_ok rfl) rfl ?_))) | refine XD_m rfl rfl ?_) | (refine X_id ?_; first | (refine X_drawS (id := 23) [0, 1, 2, 3, 4, 5, 6, 7, 8, 9] (fun | 8 => .m | _ => .s) 8 (by (repeat apply Split.blk); apply Split.frz; (repeat apply Split.blk); apply Split.frz; repeat' (exact Split.nil)) mixed (by decide +kernel) ?_; intro G hFG hM thaw; show XD _ _ _ _ _ _ [0, 1, 2, 3, 4, 5, 6, 7, 8, 9] _ _ _) | refine X_seq ?_ | (refine X_regionN (by repeat' (first | exact .nil | apply NL.cons)) ?_) | refine X_skip ?_ | refine X_exit ?_ | refine X_cond_f rfl ?_) | (refine Y_id ?_; first | refine Y_then ?_ | refine Y_then_exit ?_ | refine Y_block_hit ?_ | refine Y_block_normal ?_ | refine Y_m ?_))
        all_goals first
          | exact Y_again (j + 1, n2) fun _ _ hf hs => ⟨by show j + 1 ≤ i; omega, by show i - (j + 1) < i - j; omega, hf.sub (by (repeat' (first | exact trivial | refine And.intro rfl ?_)); done), hs.imp fun h hs => by first | exact stars_only [3, 2, 0, 0] rfl h hs | exact stars_only [2, 2, 0, 0] rfl h hs | exact hs⟩
          | (rename_i h9; exact absurd rfl h9)
          | (exfalso; omega)
          | skip
        
    · repeat' (first | (refine XL_id ?_; first | refine XL_nil ?_ | refine XL_guard_yes rfl rfl rfl ?_ | refine XL_guard_no rfl rfl rfl rfl rfl ?_ | (refine XG_call ?_; first | (refine XL_op tt_ok rfl rfl ?_) | refine XL_fn works_spec rfl rfl (fun _ _ _ => trivial) ?_) | (refine XL_op tt_ok rfl rfl ?_; try (first | refine XL_dec_f (by omega) ?_ | refine XL_dec (fun _ => ?_) (fun _ => ?_)))) | (refine X_id ?_; first | refine X_seq ?_ | (refine X_regionN (by repeat' (first | exact .nil | apply NL.cons)) ?_) | refine X_ret ?_ | refine X_exit ?_ | refine X_cond_f rfl ?_) | (refine Y_id ?_; first | refine Y_then ?_ | refine Y_then_exit ?_ | refine Y_block_hit ?_))
      all_goals first
        | exact Y_fn1 rfl rfl rfl
        | (exfalso; omega)
        | skip
      
end Go.Proofs.Ytalkcemelegohaa
