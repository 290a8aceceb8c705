/-
  Bits of numbers: the lowest ones of a number. For every program, with no condition. A library of this claim's own.
-/
import Derived.Test.YtddicdmleeaihaaVT
set_option linter.unusedSimpArgs false
set_option linter.unusedVariables false
namespace Go.Vg
theorem and3_wrap (a : Int) : IntKind.i64.wrap (((a % 2 ^ IntKind.i64.bits).toNat &&& 3 % 2 ^ IntKind.i64.bits : Nat) : Int) = a % 4 := by
  have e3 : 3 % 2 ^ IntKind.i64.bits = 2 ^ 2 - 1 := by decide
  rw [e3, Nat.and_two_pow_sub_one_eq_mod]
  have eb : IntKind.i64.bits = 64 := rfl
  rw [eb]
  have h : (((a % 2 ^ 64).toNat % 2 ^ 2 : Nat) : Int) = a % 4 := by omega
  have hb : (a % 2 ^ 64).toNat % 2 ^ 2 < 4 := by omega
  rw [← h]
  generalize (a % 2 ^ 64).toNat % 2 ^ 2 = m at hb
  have e : (m : Int) % 2 ^ 64 = m := Int.emod_eq_of_lt (by omega) (by omega)
  simp only [IntKind.wrap, IntKind.bits, IntKind.signed, e]
  rw [if_neg]
  simp
  omega
theorem Pu.andM4 {P : Program} {n : Nat} {fr : Fr} {dst : Option Nat} {ty : TypeId} {pos aft g : _} {xt yt : TypeId} {x y : Operand} {a : Int} (hx : ev fr x = some (.int .i64 a)) (hy : ev fr y = some (.int .i64 3)) :
    Pu P n ⟨dst, .binOp .and xt x y yt, ty, pos, aft, g⟩ fr (.int .i64 (a % 4)) := fun ac kn w => by
  simp [execOp, kn.ev hx, kn.ev hy, binOp, eqGuard, Op.intBits]
  exact and3_wrap a
end Go.Vg
