/-
  Arrays of arrays of numbers, as blocks of numbers; arrays that are indexed as values; pairs of numbers. For every program. A library of this claim's own.
-/
import Derived.Test.YtddicdmleeaihaaVR
set_option linter.unusedSimpArgs false
set_option linter.unusedVariables false
namespace Go.Vg
open Enc (R)
/-- An array of two numbers. -/
structure Pr2 where
  a : Int
  b : Int
  deriving Inhabited, DecidableEq
instance : Enc Pr2 where
  sz := 2
  R h x cs := cs = [.int .i64 x.a, .int .i64 x.b]
  len := fun e => by rw [e]; rfl
  one := fun e u hu => by
    rw [e] at hu; simp only [List.mem_cons, List.not_mem_nil, or_false] at hu
    rcases hu with rfl | rfl
    · rfl
    · rfl
  mono := fun hl e => e
instance : Flat Pr2 := ⟨fun h => h⟩
section
variable {P : Program} {n : Nat} {fr : Fr} {dst : Option Tmp} {ty : TypeId} {pos : String} {aft : Array Edge} {g : Option (Nat × Bool)} {w0 : World} {G : List Ch}
theorem Pu.indexN {t e : TypeId} {x i : Operand} {len : Nat} {k : IntKind} {j : Int} {xs : List Int} (ht : arTy P t = some (len, e, 1)) (he : tySz P e = some (1, false)) (hx : ev fr x = some (.agg (nums xs).toArray)) (hi : ev fr i = some (.int k j)) (h : 0 ≤ j ∧ j < len ∧ xs.length = len) :
    Pu P n ⟨dst, .index t x i, ty, pos, aft, g⟩ fr (.int .i64 (gi xs j)) := fun a kn w => by
  obtain ⟨h1, inf, h2, hsz⟩ := arTy_spec ht
  have hg := nums_get (L := xs) (j := j) ⟨h.1, by omega⟩
  have hr : (Instr.index t (.agg (nums xs).toArray) (.int k j)).run P w = .ok (.int .i64 (gi xs j)) w := by
    simp [Instr.index, asIntOf, run_underlying h1, run_sizeOf_info h2, h.1, h.2.1, part, run_isAgg_of he, hsz, hg]
  simp only [execOp, kn.ev hx, kn.ev hi, Sem.run_bind, hr, Result.andThen_ok, Sem.run_pure]
theorem Pu.indexN2 {t e : TypeId} {x i : Operand} {len : Nat} {k : IntKind} {j : Int} {xs : List Int} (ht : arTy P t = some (len, e, 2)) (he : tySz P e = some (2, true)) (hx : ev fr x = some (.agg (nums xs).toArray)) (hi : ev fr i = some (.int k j)) (h : 0 ≤ j ∧ j < len ∧ xs.length = len * 2) :
    Pu P n ⟨dst, .index t x i, ty, pos, aft, g⟩ fr (.agg #[.int .i64 (gi xs (2 * j)), .int .i64 (gi xs (2 * j + 1))]) := by
  refine Pu.indexV ht he hx hi ⟨h.1, h.2.1⟩ ?_
  have h1 := nums_get (L := xs) (j := 2 * j) ⟨by omega, by omega⟩
  have h2 := nums_get (L := xs) (j := 2 * j + 1) ⟨by omega, by omega⟩
  rw [show (2 * j).toNat = j.toNat * 2 by omega] at h1
  rw [show (2 * j + 1).toNat = j.toNat * 2 + 1 by omega] at h2
  have hl : (nums xs).length = xs.length := by simp [nums]
  apply Array.toList_inj.1
  rw [Array.toList_extract]
  show List.extract (nums xs) _ _ = _
  rw [List.extract_eq_take_drop, Nat.add_sub_cancel_left]
  apply List.ext_getElem?
  intro q
  match q with
  | 0 => simp [List.getElem?_take, List.getElem?_drop, h1]
  | 1 => simp [List.getElem?_take, List.getElem?_drop, h2]
  | q + 2 => simp [List.getElem?_take]; omega
theorem Qt.ldArO (k : Nat) {t e : TypeId} {x : Operand} {b o : Nat} {ji : Int} {L : List Int} (ht : tySz P t = some (1, false)) (hx : ev fr x = some (.pointer (some ⟨b, o, none⟩))) (ho : o = ji.toNat) (hk : G[k]? = some (blk b (nums L) e)) (hj : 0 ≤ ji ∧ ji < L.length) :
    Qt P n ⟨dst, .load t x, ty, pos, aft, g⟩ fr (Sat w0 G) (.int .i64 (gi L ji)) := by
  subst ho
  exact Qt.ldB k ht hx hk (nums_get hj)
end
end Go.Vg
