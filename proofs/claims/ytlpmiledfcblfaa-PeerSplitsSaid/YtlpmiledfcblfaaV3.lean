/-
  Function values that read what lies beside the row that is turned. For every program. A library of this claim's own.
-/
import Derived.Test.YtlpmiledfcblfaaV1
import Derived.Test.YtlpmiledfcblfaaVR
set_option linter.unusedSimpArgs false
set_option linter.unusedVariables false
namespace Go.Vg
open Enc (R)
theorem all_raw (x : Raw3) : ([x.a, x.b, x.c].all fun u => u.oneCell') = true := by
  have := x.ok
  simpa [Bool.and_eq_true] using this
/-- A function value that reckons p, in whatever world the frame F stands in. -/
def FnF (P : Program) (w0 : World) (F : Ch) (v : Value) {α β : Type} (enc : α → List Value) (dec : β → Value) (p : α → Option β) : Prop :=
  ∃ (f : FuncId) (cs : List Value), v = .func (.func f) #[] cs.toArray ∧ Ent P f ∧ ∀ x r w', Sat w0 [F] w' → p x = some r → Calls P f (enc x ++ cs).toArray w' fun e w'' => e = .returned (dec r) ∧ Ext w' w''
/-- The same of what holds slices. -/
def FnRF (P : Program) (w0 : World) (F : Ch) (v : Value) {α β : Type} (Rel : α → List Value → Prop) (dec : β → Value) (p : α → Option β) : Prop :=
  ∃ (f : FuncId) (cs : List Value), v = .func (.func f) #[] cs.toArray ∧ Ent P f ∧ ∀ x c r w', Rel x c → Sat w0 [F] w' → p x = some r → Calls P f (c ++ cs).toArray w' fun e w'' => e = .returned (dec r) ∧ Ext w' w''
section
variable {P : Program} {n : Nat} {fr : Fr} {dst : Option Tmp} {ty : TypeId} {pos : String} {aft : Array Edge} {g : Option (Nat × Bool)} {S : As} {w0 w : World} {G : List Ch} {F : Ch}
theorem FnF.toQ {v : Value} {α β : Type} {enc : α → List Value} {dec : β → Value} {p : α → Option β} (h : FnF P w0 F v enc dec p) (s : Sat w0 [F] w) : FnQ P w v enc dec p := by
  obtain ⟨f, cs, h1, h2, h3⟩ := h
  exact ⟨f, cs, h1, h2, fun x r w' e hp => h3 x r w' (s.grow e) hp⟩
theorem Qt.callF {xo : Operand} {xs : List Operand} {ts : Array TypeId} {v : Value} {α β : Type} {enc : α → List Value} {dec : β → Value} {p : α → Option β} (hv : ev fr xo = some v) (hf : FnF P w0 F v enc dec p) (hs : ∀ w, S w → Sat w0 [F] w) {x : α} {r : β} (hr : p x = some r) (hx : evs fr xs = some (enc x)) :
    Qt P n ⟨dst, .call { callee := .value xo, args := xs.toArray, argTypes := ts }, ty, pos, aft, g⟩ fr S (dec r) := fun a w k s => by
  obtain ⟨f, cs, rfl, he, hc⟩ := hf
  rw [run_enterV he hv hx k]
  have := hc x r w (hs w s) hr
  rw [show (enc x).toArray ++ cs.toArray = (enc x ++ cs).toArray by simp]
  exact ⟨Ext.refl w, this⟩
end
end Go.Vg
