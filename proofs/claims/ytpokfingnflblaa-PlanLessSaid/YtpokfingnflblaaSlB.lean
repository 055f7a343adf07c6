/- Types as a table, and the operations that touch no memory, as one function. -/
import Derived.Test.YtpokfingnflblaaSlA
set_option linter.unusedVariables false
namespace Go.Cof
open Go.RowKit

structure TI where
  desc : TypeDesc
  zero : Option Value
  size : Nat
  bytes : Nat
abbrev Tab := List (Nat × TI)
def TabAll (P : Program) : Tab → Prop
  | [] => True
  | (t, i) :: l => (P.underlying t = some i.desc ∧ (P.info? t).map (fun x => (x.zero, x.size, x.bytes)) = some (i.zero, i.size, i.bytes)) ∧ TabAll P l
structure TabOk (P : Program) (T : Tab) : Prop where
  und : ∀ t i, look T t = some i → P.underlying t = some i.desc
  inf : ∀ t i, look T t = some i → ∃ x, P.info? t = some x ∧ x.zero = i.zero ∧ x.size = i.size ∧ x.bytes = i.bytes
theorem TabAll.ok {P : Program} {T : Tab} (h : TabAll P T) : TabOk P T := by
  have key : ∀ t i, look T t = some i → P.underlying t = some i.desc ∧ (P.info? t).map (fun x => (x.zero, x.size, x.bytes)) = some (i.zero, i.size, i.bytes) := by
    induction T with
    | nil => intro t i h; cases h
    | cons p T ih =>
      obtain ⟨j, u⟩ := p
      intro t i hk
      simp only [look] at hk
      cases hc : Nat.beq t j with
      | true =>
        rw [hc] at hk
        simp only [cond_true, Option.some.injEq] at hk
        rw [Nat.eq_of_beq_eq_true hc, ← hk]
        exact h.1
      | false => rw [hc] at hk; exact ih h.2 t i hk
  refine ⟨fun t i hk => (key t i hk).1, fun t i hk => ?_⟩
  have := (key t i hk).2
  cases hx : P.info? t with
  | none => rw [hx] at this; cases this
  | some x => rw [hx] at this; simp only [Option.map_some, Option.some.injEq, Prod.mk.injEq] at this; exact ⟨x, rfl, this.1, this.2.1, this.2.2⟩

def TI.agg (i : TI) : Bool := match i.desc with | .struct _ => true | .array _ _ => true | _ => false

def partV (T : Tab) (t : TypeId) (cs : List Value) (off : Nat) : Option Value :=
  match look T t with
  | none => none
  | some i => bif i.agg then some (.agg ((cs.drop off).take i.size).toArray) else cs[off]?

section
variable {P : Program} {T : Tab} (hT : TabOk P T) (w : World)
include hT
theorem run_isAgg {t : TypeId} {i : TI} (h : look T t = some i) : (isAgg t).run P w = .ok i.agg w := by
  have := hT.und t i h
  simp only [isAgg, Sem.run_bind, run_underlying this, Result.andThen_ok, TI.agg]
  cases i.desc <;> rfl
theorem run_sizeOf {t : TypeId} {i : TI} (h : look T t = some i) : (sizeOf t).run P w = .ok i.size w := by
  obtain ⟨x, h1, _, h3, _⟩ := hT.inf t i h
  simp [sizeOf, typeInfo, h1, h3]
theorem run_zeroValue {t : TypeId} {i : TI} (h : look T t = some i) {z : Value} (hz : i.zero = some z) : (zeroValue t).run P w = .ok z w := by
  obtain ⟨x, h1, h2, _, _⟩ := hT.inf t i h
  simp [zeroValue, typeInfo, h1, h2, hz]
omit hT in
theorem extract_list (cs : Array Value) (i j : Nat) : cs.extract i j = ((cs.toList.drop i).take (j - i)).toArray := by
  rw [← Array.toList_inj]
  simp [Array.toList_extract, List.extract_eq_take_drop]
theorem run_part {t : TypeId} {cs : Array Value} {off : Nat} {v : Value} (h : partV T t cs.toList off = some v) : (part t cs off).run P w = .ok v w := by
  unfold partV at h
  cases hl : look T t with
  | none => rw [hl] at h; cases h
  | some i =>
    rw [hl] at h
    simp only at h
    simp only [part, Sem.run_bind, run_isAgg hT w hl, Result.andThen_ok]
    cases ha : i.agg with
    | true =>
      rw [ha] at h
      simp only [cond_true, Option.some.injEq] at h
      simp only [if_true, Sem.run_bind, run_sizeOf hT w hl, Result.andThen_ok, Sem.run_pure]
      rw [← h, extract_list]
      simp
    | false =>
      rw [ha] at h
      simp only [cond_false] at h
      have : cs[off]? = some v := by rw [← h]; simp
      simp [this]
end

/-! ### what one operation yields -/
def intBin (op : BinOp) (k : IntKind) (a b : Int) : Option Value :=
  match op with
  | .add => some (.int k (k.wrap (a + b)))
  | .sub => some (.int k (k.wrap (a - b)))
  | .mul => some (.int k (k.wrap (a * b)))
  | .quo => if b = 0 then none else some (.int k (k.wrap (a.tdiv b)))
  | .rem => if b = 0 then none else some (.int k (a.tmod b))
  | .and => some (.int k (bits .and k a b))
  | .or => some (.int k (bits .or k a b))
  | .xor => some (.int k (bits .xor k a b))
  | .andNot => some (.int k (bits .andNot k a b))
  | .eql => some (.bool (decide (a = b)))
  | .neq => some (.bool (decide (¬ a = b)))
  | .lss => some (.bool (decide (a < b)))
  | .leq => some (.bool (decide (a ≤ b)))
  | .gtr => some (.bool (decide (b < a)))
  | .geq => some (.bool (decide (b ≤ a)))
  | _ => none
def shiftBin (op : BinOp) (k : IntKind) (a b : Int) : Option Value :=
  match op with
  | .shl => if b < 0 then none else some (.int k (k.wrap (a * 2 ^ (min b.toNat k.bits))))
  | .shr => if b < 0 then none else some (.int k (a / (2 ^ (min b.toNat k.bits))))
  | _ => none
def eqKind (a b : IntKind) : Bool := match a, b with
  | .i8, .i8 | .i16, .i16 | .i32, .i32 | .i64, .i64 | .u8, .u8 | .u16, .u16 | .u32, .u32 | .u64, .u64 => true
  | _, _ => false
theorem eqKind_eq {a b : IntKind} (h : eqKind a b = true) : a = b := by cases a <;> cases b <;> first | rfl | cases h
def isNil (T : Tab) (t : TypeId) (v u : Value) : Option Bool :=   -- '==' where one side is nil
  match look T t with
  | none => none
  | some i =>
    match i.desc, v, u with
    | .pointer _, .pointer none, .pointer none => some true
    | .pointer _, .pointer none, .pointer (some _) => some false
    | .pointer _, .pointer (some _), .pointer none => some false
    | .map _ _, .map none, .map none => some true
    | .map _ _, .map none, .map (some _) => some false
    | .map _ _, .map (some _), .map none => some false
    | .func _ _ _, .nilFunc, .nilFunc => some true
    | .func _ _ _, .nilFunc, .func _ _ _ => some false
    | .func _ _ _, .func _ _ _, .nilFunc => some false
    | .slice _, .slice none _ _, .slice none _ _ => some true
    | .slice _, .slice none _ _, .slice (some _) _ _ => some false
    | .slice _, .slice (some _) _ _, .slice none _ _ => some false
    | .bool, .bool a, .bool b => some (a == b)
    | _, _, _ => none
def binV (T : Tab) (op : BinOp) (t : TypeId) (v u : Value) : Option Value :=
  match v, u with
  | .int k a, .int k' b =>
    match op with
    | .shl | .shr => shiftBin op k a b
    | _ => bif eqKind k k' then intBin op k a b else none
  | .string _, _ => none
  | .float _ _, _ => none
  | .complex _ _ _, _ => none
  | _, _ =>
    match op with
    | .eql => match isNil T t v u with | some b => some (.bool b) | none => none
    | .neq => match isNil T t v u with | some b => some (.bool (!b)) | none => none
    | _ => none
def unV (op : UnOp) (v : Value) : Option Value :=
  match op, v with
  | .not, .bool b => some (.bool !b)
  | .neg, .int k n => some (.int k (k.wrap (0 - n)))
  | .xor, .int k n => some (.int k (bits .xor k (if k.signed then -1 else k.max) n))
  | _, _ => none
def evs (e : Env) : List Operand → Option (List Value)
  | [] => some []
  | x :: l => match ev e x with
    | none => none
    | some v => match evs e l with
      | none => none
      | some vs => some (v :: vs)
def addFld (T : Tab) (s : TypeId) (a : Addr) (f : Nat) : Option Value :=
  match look T s with
  | some { desc := .struct fs, .. } =>
    match fs[f]? with
    | some fd => match look T fd.type with
      | some i => bif Nat.beq i.size 0 then none else some (.pointer (some (a.add fd.offset)))
      | none => none
    | none => none
  | _ => none
def fldV (T : Tab) (s : TypeId) (cs : List Value) (f : Nat) : Option Value :=
  match look T s with
  | some { desc := .struct fs, .. } => match fs[f]? with
    | some fd => partV T fd.type cs fd.offset
    | none => none
  | _ => none
def maxV : Value → Value → Option Value
  | .int k x, .int k' y => bif eqKind k k' then some (.int k (if y > x then y else x)) else none
  | _, _ => none
def minV : Value → Value → Option Value
  | .int k x, .int k' y => bif eqKind k k' then some (.int k (if y < x then y else x)) else none
  | _, _ => none
def foldV (f : Value → Value → Option Value) : Value → List Value → Option Value
  | v, [] => some v
  | v, u :: l => match f v u with | some x => foldV f x l | none => none
def builtV (T : Tab) (b : Builtin) (ats : Array TypeId) (args : List Value) : Option Value :=
  match b, args with
  | .len, [v] => match ats[0]? with
    | none => none
    | some t => match look T t, v with
      | some { desc := .slice _, .. }, .slice _ n _ => some (.int .i64 n)
      | some { desc := .array n _, .. }, _ => some (.int .i64 n)
      | some { desc := .map _ _, .. }, .map none => some (.int .i64 0)
      | _, _ => none
  | .cap, [v] => match ats[0]? with
    | none => none
    | some t => match look T t, v with
      | some { desc := .slice _, .. }, .slice _ _ c => some (.int .i64 c)
      | _, _ => none
  | .max, v :: l => foldV maxV v l
  | .min, v :: l => foldV minV v l
  | _, _ => none
def opV (T : Tab) (e : Env) (op : Op) : Option Value :=
  match op with
  | .move x | .assign x => ev e x
  | .pick c a b => match ev e c with
    | some (.bool true) => ev e a
    | some (.bool false) => ev e b
    | _ => none
  | .binOp op t x y _ => match ev e x, ev e y with
    | some v, some u => binV T op t v u
    | _, _ => none
  | .unOp op _ x => match ev e x with
    | some v => unV op v
    | _ => none
  | .convert src dst x => match look T src, look T dst, ev e x with
    | some _, some { desc := .int k, .. }, some (.int _ n) => some (.int k (k.wrap n))
    | _, _, _ => none
  | .extract x i => match ev e x with
    | some (.tuple vs) => vs[i]?
    | _ => none
  | .field s x f => match ev e x with
    | some (.agg cs) => fldV T s cs.toList f
    | _ => none
  | .fieldAddr s x f => match ev e x with
    | some (.pointer (some a)) => addFld T s a f
    | _ => none
  | .nilCheck x => match ev e x with
    | some (.pointer (some a)) => some (.pointer (some a))
    | some (.func (.func f) u v) => some (.func (.func f) u v)
    | _ => none
  | .makeFunc fn first captured => match evs e first.toList, evs e captured.toList with
    | some u, some v => some (.func fn u.toArray v.toArray)
    | _, _ => none
  | .call { callee := .builtin b, args, argTypes } => match evs e args.toList with
    | some vs => builtV T b argTypes vs
    | _ => none
  | _ => none

section
variable {P : Program} {T : Tab} {n : Nat} {e : Env} {a : Act}
theorem Fr.evs (hf : Fr n e a) : ∀ {l : List Operand} {vs : List Value}, Cof.evs e l = some vs → l.map a.eval = vs
  | [], _, h => by simp only [Cof.evs, Option.some.injEq] at h; simp [h]
  | x :: l, vs, h => by
    simp only [Cof.evs] at h
    cases h1 : Cof.ev e x with
    | none => rw [h1] at h; cases h
    | some v =>
      rw [h1] at h
      simp only at h
      cases h2 : Cof.evs e l with
      | none => rw [h2] at h; cases h
      | some us =>
        rw [h2] at h
        simp only [Option.some.injEq] at h
        rw [← h, List.map_cons, hf.ev h1, hf.evs h2]

theorem int_of_shift (k yk : IntKind) (op : BinOp) (x y : Int) (v : Value) (h : shiftBin op k x y = some v) (w : World) : (Op.shift op k x yk y).run P w = .ok v w := by
  unfold shiftBin at h
  cases op <;> simp only at h <;> try cases h
  · split at h
    · cases h
    · cases h; rename_i hy; simp [Op.shift, hy]
  · split at h
    · cases h
    · cases h; rename_i hy; simp only [Op.shift, hy, if_false, Sem.run_pure, Result.ok.injEq, Value.int.injEq, true_and, and_true]
      exact Int.fdiv_eq_ediv_of_nonneg _ (Int.le_of_lt (Int.pow_pos (by decide)))

theorem bit_run (op : BinOp) (k : IntKind) (x y : Int) (hop : op = .and ∨ op = .or ∨ op = .xor ∨ op = .andNot) (w : World) : (Op.intBits op k x y).run P w = .ok (.int k (bits op k x y)) w := by
  rcases hop with rfl | rfl | rfl | rfl <;> rfl

theorem isNil_run (hT : TabOk P T) {t : TypeId} {v u : Value} {b : Bool} (h : isNil T t v u = some b) (d : Nat) (w : World) : (Op.equalIn (d + 1) t v u).run P w = .ok b w := by
  unfold isNil at h
  cases hl : look T t with
  | none => rw [hl] at h; cases h
  | some i =>
    rw [hl] at h
    have hu := hT.und t i hl
    simp only at h
    unfold Op.equalIn
    simp only [Sem.run_bind, run_underlying hu, Result.andThen_ok]
    split at h
    all_goals first | (cases h; done) | (rename_i e1; rw [e1]; cases h; rfl)

theorem isNil_form {t : TypeId} {v u : Value} {b : Bool} (h : isNil T t v u = some b) : (∀ op x y, eqGuard op t x y v u = pure ()) ∧
    (binOp .eql t v u = (do pure (.bool (← Op.equal t v u)))) ∧ (binOp .neq t v u = (do pure (.bool (!(← Op.equal t v u))))) := by
  unfold isNil at h
  cases hl : look T t with
  | none => rw [hl] at h; cases h
  | some i =>
    rw [hl] at h
    simp only at h
    split at h
    all_goals first | (cases h; done) | exact ⟨fun op x y => by cases op <;> rfl, rfl, rfl⟩

theorem binV_run (hT : TabOk P T) {op : BinOp} {t : TypeId} {v u r : Value} (h : binV T op t v u = some r) (x y : Operand) (w : World) : (do eqGuard op t x y v u; binOp op t v u : Sem Value).run P w = .ok r w := by
  unfold binV at h
  split at h
  · rename_i k a k' b
    simp only [Sem.run_bind, eqGuard_at_int, Sem.run_pure, Result.andThen_ok]
    split at h
    · simp only [binOp]; exact int_of_shift _ _ _ _ _ _ h w
    · simp only [binOp]; exact int_of_shift _ _ _ _ _ _ h w
    · rename_i h1 h2
      cases hk : eqKind k k' with
      | false => rw [hk] at h; cases h
      | true =>
        rw [hk] at h
        have := eqKind_eq hk
        subst this
        simp only [cond_true] at h
        unfold intBin at h
        cases op <;> simp only [reduceCtorEq, Option.some.injEq] at h <;> first | cases h | skip
        all_goals first
          | (exact absurd rfl h1)
          | (exact absurd rfl h2)
          | (split at h; · cases h
             cases h; rename_i hb; simp [binOp, Op.intDiv, hb]; done)
          | (simp [binOp, Op.intArith]; done)
          | (rw [binOp_and]; exact bit_run _ _ _ _ (by simp) w)
          | (rw [binOp_or]; exact bit_run _ _ _ _ (by simp) w)
          | (rw [binOp_xor]; exact bit_run _ _ _ _ (by simp) w)
          | (rw [binOp_andNot]; exact bit_run _ _ _ _ (by simp) w)
          | (simp [binOp, Op.intCmp]; done)
          | (rw [binOp_neq, show (a != b) = decide (¬ a = b) from by by_cases hab : a = b <;> simp [hab]]; rfl)
          | (rw [binOp_eql, show (a == b) = decide (a = b) from by by_cases hab : a = b <;> simp [hab]]; rfl)
  · cases h
  · cases h
  · cases h
  · split at h
    · cases hb : isNil T t v u with
      | none => rw [hb] at h; cases h
      | some b =>
        rw [hb] at h
        simp only [Option.some.injEq] at h
        obtain ⟨h1, h2, _⟩ := isNil_form hb
        rw [h1, h2, ← h]
        have := isNil_run hT hb 9999 w
        simp only [Sem.run_bind, Sem.run_pure, Result.andThen_ok]
        rw [show Op.equal t v u = Op.equalIn (9999 + 1) t v u from rfl, this]
        rfl
    · cases hb : isNil T t v u with
      | none => rw [hb] at h; cases h
      | some b =>
        rw [hb] at h
        simp only [Option.some.injEq] at h
        obtain ⟨h1, _, h2⟩ := isNil_form hb
        rw [h1, h2, ← h]
        have := isNil_run hT hb 9999 w
        simp only [Sem.run_bind, Sem.run_pure, Result.andThen_ok]
        rw [show Op.equal t v u = Op.equalIn (9999 + 1) t v u from rfl, this]
        rfl
    · cases h

theorem addFld_run (hT : TabOk P T) {s : TypeId} {ad : Addr} {f : Nat} {r : Value} (h : addFld T s ad f = some r) (w : World) : (Instr.fieldAt s (.pointer (some ad)) f).run P w = .ok r w := by
  unfold addFld at h
  split at h
  · rename_i fs _ _ _ hl
    have hu := hT.und s _ hl
    split at h
    · rename_i fd hfd
      split at h
      · rename_i i hi
        cases hc : Nat.beq i.size 0 with
        | true => rw [hc] at h; cases h
        | false =>
          rw [hc] at h
          simp only [cond_false, Option.some.injEq] at h
          have hz : ¬ i.size = 0 := fun e => by rw [e] at hc; cases hc
          simp [Instr.fieldAt, run_underlying hu, hfd, Instr.sureAddr, fieldPlace, run_sizeOf hT w hi, hz, ← h]
      · cases h
    · cases h
  · cases h

theorem fldV_run (hT : TabOk P T) {s : TypeId} {cs : Array Value} {f : Nat} {r : Value} (h : fldV T s cs.toList f = some r) (w : World) : (Instr.field s (.agg cs) f).run P w = .ok r w := by
  unfold fldV at h
  split at h
  · rename_i fs _ _ _ hl
    have hu := hT.und s _ hl
    split at h
    · rename_i fd hfd
      simp [Instr.field, run_underlying hu, hfd, asAgg, run_part hT w h]
    · cases h
  · cases h

theorem foldV_run {f : Value → Value → Option Value} {g : Value → Value → Sem Value} (hfg : ∀ v u r w, f v u = some r → (g v u).run P w = .ok r w) (w : World) : ∀ (l : List Value) (v r : Value), foldV f v l = some r → (l.foldlM g v).run P w = .ok r w
  | [], v, r, h => by simp only [foldV, Option.some.injEq] at h; simp [h]
  | u :: l, v, r, h => by
    simp only [foldV] at h
    cases h1 : f v u with
    | none => rw [h1] at h; cases h
    | some x =>
      rw [h1] at h
      simp only [List.foldlM_cons, Sem.run_bind, hfg v u x w h1, Result.andThen_ok]
      exact foldV_run hfg w l x r h
theorem maxV_run (v u r : Value) (w : World) (h : maxV v u = some r) : (Builtin.max2 v u).run P w = .ok r w := by
  unfold maxV at h
  split at h
  · rename_i k x k' y
    cases hk : eqKind k k' with
    | false => rw [hk] at h; cases h
    | true => rw [hk] at h; simp only [cond_true, Option.some.injEq] at h; simp [Builtin.max2, h]
  · cases h
theorem minV_run (v u r : Value) (w : World) (h : minV v u = some r) : (Builtin.min2 v u).run P w = .ok r w := by
  unfold minV at h
  split at h
  · rename_i k x k' y
    cases hk : eqKind k k' with
    | false => rw [hk] at h; cases h
    | true => rw [hk] at h; simp only [cond_true, Option.some.injEq] at h; simp [Builtin.min2, h]
  · cases h
theorem builtV_run (hT : TabOk P T) {b : Builtin} {ats : Array TypeId} {args : List Value} {r : Value} (h : builtV T b ats args = some r) (ty : TypeId) (cs : Array Bool) (w : World) : (builtin b ats ty cs args.toArray).run P w = .ok (.value r) w := by
  unfold builtV at h
  split at h
  · split at h
    · cases h
    · rename_i t ht
      split at h
      · rename_i hl
        cases h
        simp [builtin, Builtin.len_, ht, run_underlying (hT.und _ _ hl), goInt]
      · rename_i hl
        cases h
        simp [builtin, Builtin.len_, ht, run_underlying (hT.und _ _ hl), goInt]
      · rename_i hl
        cases h
        simp [builtin, Builtin.len_, ht, run_underlying (hT.und _ _ hl), goInt]
      · cases h
  · split at h
    · cases h
    · rename_i t ht
      split at h
      · rename_i hl
        cases h
        simp [builtin, Builtin.cap_, ht, run_underlying (hT.und _ _ hl), goInt]
      · cases h
  · simp [builtin, Builtin.max_, foldV_run maxV_run w _ _ _ h]
  · simp [builtin, Builtin.min_, foldV_run minV_run w _ _ _ h]
  · cases h

theorem opV_run (hT : TabOk P T) (hf : Fr n e a) (o : Oper) {v : Value} (h : opV T e o.op = some v) (w : World) : (execOp a.eval o).run P w = .ok (.value v) w := by
  obtain ⟨dst, op, ty, pos, after, guard⟩ := o
  simp only at h
  unfold execOp
  simp only
  unfold opV at h
  split at h
  · simp [hf.ev h]
  · simp [hf.ev h]
  · rename_i c x y
    split at h
    · rename_i hc
      simp only [Sem.run_bind, hf.ev hc, asBool, Sem.run_pure, Result.andThen_ok, hf.ev h]
      rfl
    · rename_i hc
      simp only [Sem.run_bind, hf.ev hc, asBool, Sem.run_pure, Result.andThen_ok, hf.ev h]
      rfl
    · cases h
  · rename_i op t x y t'
    split at h
    · rename_i v1 u1 hv hu
      have := binV_run hT h x y w
      simp only [Sem.run_bind] at this
      simp only [Sem.run_bind, hf.ev hv, hf.ev hu]
      rw [this]
      rfl
    · cases h
  · rename_i op t x
    split at h
    · rename_i v1 hv
      unfold unV at h
      simp only [Sem.run_bind, hf.ev hv]
      split at h
      · cases h; rfl
      · cases h; rfl
      · cases h; rfl
      · cases h
    · cases h
  · rename_i src dst x
    split at h
    · rename_i i1 k _ _ _ k' m h1 h2 h3
      cases h
      simp only [Sem.run_bind, hf.ev h3]
      have g1 := hT.und _ _ h1
      have g2 := hT.und _ _ h2
      simp only [convert, Sem.run_bind, run_underlying g1, run_underlying g2, Result.andThen_ok]
      cases i1.desc <;> rfl
    · cases h
  · rename_i x i
    split at h
    · rename_i vs hv
      simp [hf.ev hv, Instr.extract, h]
    · cases h
  · rename_i s x f
    split at h
    · rename_i cs hv
      simp [hf.ev hv, fldV_run hT h w]
    · cases h
  · rename_i s x f
    split at h
    · rename_i ad hv
      simp [hf.ev hv, addFld_run hT h w]
    · cases h
  · rename_i x
    split at h
    · rename_i ad hv; cases h; simp [hf.ev hv]
    · rename_i f1 u1 v1 hv; cases h; simp [hf.ev hv]
    · cases h
  · rename_i fn first captured
    split at h
    · rename_i u1 v1 hu hv
      cases h
      have g1 := hf.evs hu
      have g2 := hf.evs hv
      have e1 : ∀ l : Array Operand, (l.toList.map a.eval).toArray = l.map a.eval := fun l => by rw [← Array.toList_inj]; simp
      simp [Instr.makeFunc, ← g1, ← g2, e1]
    · cases h
  · rename_i b args ats
    split at h
    · rename_i vs hv
      have g := hf.evs hv
      have e1 : (args.toList.map a.eval).toArray = args.map a.eval := by rw [← Array.toList_inj]; simp
      simp only [resolve, invoke, Sem.run_bind, Sem.run_pure, Result.andThen_ok]
      rw [← e1, g]
      exact builtV_run hT h ty _ w
    · cases h
  · cases h
end
end Go.Cof
