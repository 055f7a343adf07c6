/- Masks and shifts; an index into a string or an array's value. -/
import Derived.Test.YtpokfingnflblaaSlX
set_option linter.unusedVariables false
set_option linter.unusedSectionVars false
namespace Go.Cof
open Go.RowKit

theorem nat_ofInt {n : Nat} (h : n < 18446744073709551616) : (BitVec.ofInt 64 (n : Int)).toNat = n := by
  rw [BitVec.ofInt_natCast, BitVec.toNat_ofNat]
  exact Nat.mod_eq_of_lt (by omega)
theorem and_nat (n j : Nat) : (n &&& (2 ^ j - 1)) = n % 2 ^ j := Nat.and_two_pow_sub_one_eq_mod n j
theorem pow_le62 {j : Nat} (hj : j ≤ 62) : (2 : Nat) ^ j ≤ 4611686018427387904 := by
  have := Nat.pow_le_pow_right (n := 2) (by decide) hj
  simpa using this
theorem and_u64 (j : Nat) (hj : j ≤ 62) {x m : Int} (hm : m = ((2 ^ j - 1 : Nat) : Int)) (h0 : 0 ≤ x) (h1 : x < 18446744073709551616) : bits .and .u64 x m = x % ((2 ^ j : Nat) : Int) := by
  obtain ⟨n, rfl⟩ := Int.eq_ofNat_of_zero_le h0
  subst hm
  have hp := pow_le62 hj
  have hn : n < 18446744073709551616 := by omega
  have hlt : n % 2 ^ j < 2 ^ j := Nat.mod_lt _ (Nat.pow_pos (by decide))
  show IntKind.u64.wrap (((BitVec.ofInt 64 (n : Int) &&& BitVec.ofInt 64 ((2 ^ j - 1 : Nat) : Int)).toNat : Nat) : Int) = _
  rw [BitVec.toNat_and, nat_ofInt hn, nat_ofInt (by omega), and_nat, wrap_u64 (by omega) (by omega)]
  rfl
theorem and_i64 (j : Nat) (hj : j ≤ 62) {x m : Int} (hm : m = ((2 ^ j - 1 : Nat) : Int)) (h0 : 0 ≤ x) (h1 : x < 9223372036854775808) : bits .and .i64 x m = x % ((2 ^ j : Nat) : Int) := by
  obtain ⟨n, rfl⟩ := Int.eq_ofNat_of_zero_le h0
  subst hm
  have hp := pow_le62 hj
  have hn : n < 18446744073709551616 := by omega
  have hlt : n % 2 ^ j < 2 ^ j := Nat.mod_lt _ (Nat.pow_pos (by decide))
  show IntKind.i64.wrap (((BitVec.ofInt 64 (n : Int) &&& BitVec.ofInt 64 ((2 ^ j - 1 : Nat) : Int)).toNat : Nat) : Int) = _
  rw [BitVec.toNat_and, nat_ofInt hn, nat_ofInt (by omega), and_nat, wrap_i64 (by omega) (by omega)]
  rfl
section
variable {P : Program} {T : Tab} {F : Frz} {n : Nat} {Q : Exit → Act → World → Prop} {e : Env} {L : List HProp} {ops : Array Oper} {l : List Oper} {d : Option Tmp} {ty : TypeId} {pos : String} {af : Array Edge}
theorem XL_strIx (hT : TabOk P T) {t : TypeId} {i1 : TI} {x ix : Operand} {s : ByteArray} {k : IntKind} {i : Int} {b : UInt8} {v : Int} {e' : Env} (ht : look T t = some i1) (hd : i1.desc = .string) (hx : ev e x = some (.string s)) (hi : ev e ix = some (.int k i)) (h0 : 0 ≤ i) (hb : s[i.toNat]? = some b) (hv : (b.toNat : Int) = v)
    (hp : putE n d (.int .u8 v) e = some e') (h : XL P F n ops l Q e' L) : XL P F n ops (⟨d, .index t x ix, ty, pos, af, none⟩ :: l) Q e L :=
  XL_val (o := ⟨d, .index t x ix, ty, pos, af, none⟩) rfl hp (fun a w hf hs => by
    have hu := hT.und t i1 ht
    rw [hd] at hu
    simp [execOp, hf.ev hx, hf.ev hi, Instr.index, asIntOf, run_underlying hu, h0, hb, ← hv]) h
theorem XL_arrIx (hT : TabOk P T) {t el : TypeId} {i1 i2 : TI} {x ix : Operand} {len : Nat} {cs : Array Value} {k : IntKind} {i : Int} {v : Value} {e' : Env} (ht : look T t = some i1) (hd : i1.desc = .array len el) (he : look T el = some i2) (hx : ev e x = some (.agg cs)) (hi : ev e ix = some (.int k i)) (h0 : 0 ≤ i) (h1 : i < len)
    (hv : partV T el cs.toList (i.toNat * i2.size) = some v) (hp : putE n d v e = some e') (h : XL P F n ops l Q e' L) : XL P F n ops (⟨d, .index t x ix, ty, pos, af, none⟩ :: l) Q e L :=
  XL_val (o := ⟨d, .index t x ix, ty, pos, af, none⟩) rfl hp (fun a w hf hs => by
    have hu := hT.und t i1 ht
    rw [hd] at hu
    have hr := run_part (P := P) hT w hv
    simp [execOp, hf.ev hx, hf.ev hi, Instr.index, asIntOf, run_underlying hu, h0, h1, run_sizeOf hT w he, hr]) h
end
end Go.Cof
