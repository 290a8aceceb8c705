/-
  Shifts by any amount. The conditions stand in each lemma.
-/
import Derived.Test.YtddicdmleeaihaaVR
set_option linter.unusedVariables false
namespace Go.Vg
open Enc (R)
open Go
variable {P : Program} {n : Nat} {fr : Fr} {S : As} {dst : Option Tmp} {ty : TypeId} {pos : String} {aft : Array Edge} {g : Option (Nat × Bool)}
theorem Pu.shrV {xt yt : TypeId} {x y : Operand} {a k : Int} {kk : IntKind} (hx : ev fr x = some (.int .i64 a)) (hy : ev fr y = some (.int kk k)) (h : 0 ≤ k ∧ k < 64) :
    Pu P n ⟨dst, .binOp .shr xt x y yt, ty, pos, aft, g⟩ fr (.int .i64 (a / 2 ^ k.toNat)) := fun ac kn w => by
  have h2 := shift_shr_any .i64 kk a k h.1
  have h3 : min k.toNat 64 = k.toNat := by omega
  simp [execOp, kn.ev hx, kn.ev hy, binOp, eqGuard, h2, IntKind.bits, h3]
theorem and1_wrap (a : Int) : IntKind.i64.wrap (((a % 2 ^ IntKind.i64.bits).toNat &&& 1 % 2 ^ IntKind.i64.bits : Nat) : Int) = a % 2 := by
  have e3 : 1 % 2 ^ IntKind.i64.bits = 2 ^ 1 - 1 := by decide
  rw [e3, Nat.and_two_pow_sub_one_eq_mod]
  have eb : IntKind.i64.bits = 64 := rfl
  rw [eb]
  have h : (((a % 2 ^ 64).toNat % 2 ^ 1 : Nat) : Int) = a % 2 := by omega
  have hb : (a % 2 ^ 64).toNat % 2 ^ 1 < 2 := by omega
  rw [← h]
  generalize (a % 2 ^ 64).toNat % 2 ^ 1 = m at hb
  have e : (m : Int) % 2 ^ 64 = m := Int.emod_eq_of_lt (by omega) (by omega)
  simp only [IntKind.wrap, IntKind.bits, IntKind.signed, e]
  rw [if_neg]
  simp
  omega
theorem Pu.andM2 {xt yt : TypeId} {x y : Operand} {a : Int} (hx : ev fr x = some (.int .i64 a)) (hy : ev fr y = some (.int .i64 1)) :
    Pu P n ⟨dst, .binOp .and xt x y yt, ty, pos, aft, g⟩ fr (.int .i64 (a % 2)) := fun ac kn w => by
  simp [execOp, kn.ev hx, kn.ev hy, binOp, eqGuard, Op.intBits]
  exact and1_wrap a
end Go.Vg
