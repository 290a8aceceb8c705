
/-
  The five statements of the buildings, as pure functions, are true. For arguments that are Go's.
-/
import Derived.Test.YtiipgdmcgmbbkaaBS
set_option linter.unusedVariables false
set_option linter.unusedSimpArgs false
namespace Go.Proofs.Ytiipgdmcgmbbkaa
open Go.Vg
theorem AddR.len {g : Grd} {l : List Bld} {b : Bld} {r : List Bld × Int} (h : AddR g l b r) : r.1.length ≤ l.length + 1 := by
  rcases h with ⟨_, rfl⟩ | ⟨_, _, rfl⟩ | ⟨_, _, _, rfl⟩ | ⟨_, _, _, ⟨_, rfl⟩ | ⟨_, _, rfl⟩ | ⟨_, _, i, _, rfl⟩⟩ <;> simp
  omega
theorem MOk.nil (g : Grd) : MOk g [] := ⟨by simp, fun i h0 h1 => (by simp at h1; omega), fun i h0 h1 => (by simp at h1; omega), fun i k h0 h1 h2 => (by simp at h2; omega)⟩
end Go.Proofs.Ytiipgdmcgmbbkaa
