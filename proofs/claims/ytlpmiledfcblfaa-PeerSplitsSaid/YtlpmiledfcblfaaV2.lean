/-
  Numbers that run over; three numbers that came in. For every program. A library of this claim's own.
-/
import Derived.Test.YtlpmiledfcblfaaV1
import Derived.Test.YtlpmiledfcblfaaVH
set_option linter.unusedSimpArgs false
set_option linter.unusedVariables false
namespace Go.Vg
open Enc (R)
/-- Numbers that run over. -/
def w64 (x : Int) : Int := (x + 9223372036854775808) % 18446744073709551616 - 9223372036854775808
theorem w64_in {x : Int} (h : I64 x) : w64 x = x := by unfold w64; unfold I64 at h; omega
theorem w64_i (x : Int) : I64 (w64 x) := by unfold w64 I64; omega
section
variable {P : Program} {n : Nat} {fr : Fr} {dst : Option Tmp} {ty : TypeId} {pos : String} {aft : Array Edge} {g : Option (Nat × Bool)}
theorem Pu.addW {xt yt : TypeId} {x y : Operand} {a b : Int} (hx : ev fr x = some (.int .i64 a)) (hy : ev fr y = some (.int .i64 b)) :
    Pu P n ⟨dst, .binOp .add xt x y yt, ty, pos, aft, g⟩ fr (.int .i64 (w64 (a + b))) := Pu.bin hx hy (by rw [binI, IntKind.wrap_i64]; rfl)
theorem Pu.subW {xt yt : TypeId} {x y : Operand} {a b : Int} (hx : ev fr x = some (.int .i64 a)) (hy : ev fr y = some (.int .i64 b)) :
    Pu P n ⟨dst, .binOp .sub xt x y yt, ty, pos, aft, g⟩ fr (.int .i64 (w64 (a - b))) := Pu.bin hx hy (by rw [binI, IntKind.wrap_i64]; rfl)
end
/-- Three numbers that came in. -/
def Pr3.Wf (x : Pr3) : Prop := I64 x.a ∧ I64 x.b ∧ I64 x.c
theorem Rdbl.pr3 {P : Program} {t e : TypeId} (ht : P.underlying t = some (.array 3 e)) (he : P.underlying e = some (.int .i64)) (hc : P.cellsOf e = 1) (hct : P.cellsOf t = 3) : Rdbl P t Pr3 Pr3.Wf := fun H enc w fuel cs x h _ => by
  obtain ⟨xs, m, _, _, hl, hxl, hf⟩ := DataW.trod_array ht h
  have g : ∀ i, i < 3 → ∃ a : Int, ((cs.drop (i * 1)).take 1) = [.int .i64 a] ∧ I64 a := fun i hi => by
    have h1 := hf i hi
    rw [hc] at h1
    have hlt : i < xs.length := by omega
    rw [List.getElem?_eq_getElem hlt] at h1
    obtain ⟨a, e1, _, hw⟩ := DataW.trod_int he h1
    exact ⟨a, e1, by simpa [Lit.wf, IntKind.min, IntKind.max, IntKind.signed, IntKind.bits, I64] using hw⟩
  rw [hct] at hl
  obtain ⟨a, h0, w0⟩ := g 0 (by decide)
  obtain ⟨b, h1, w1⟩ := g 1 (by decide)
  obtain ⟨c, h2, w2⟩ := g 2 (by decide)
  obtain ⟨x0, x1, x2, rfl⟩ : ∃ x0 x1 x2, cs = [x0, x1, x2] := by
    match cs, hl with
    | [x0, x1, x2], _ => exact ⟨x0, x1, x2, rfl⟩
  simp only [Nat.zero_mul, Nat.one_mul, Nat.mul_one, List.drop_succ_cons, List.drop_zero, List.take_succ_cons, List.take_zero, List.cons.injEq, and_true] at h0 h1 h2
  exact ⟨⟨a, b, c⟩, by rw [h0, h1, h2]; rfl, w0, w1, w2⟩
end Go.Vg
