
/-
  Buildings, continued: where an ID stands, one more, one less, what they cover. The conditions stand in each lemma.
-/
import Derived.Test.YtiipgdmcgmbbkaaBQ
set_option linter.unusedVariables false
set_option linter.unusedSimpArgs false
namespace Go.Proofs.Ytiipgdmcgmbbkaa
open Go.Vg
theorem Ris.lt {l : List Bld} (h : Ris l) {i j : Int} (h0 : 0 ≤ i) (h1 : i < j) (h2 : j < l.length) : (gi l i).id < (gi l j).id := by
  obtain ⟨n, hn⟩ : ∃ n : Nat, j = i + 1 + n := ⟨(j - i - 1).toNat, by omega⟩
  induction n generalizing j with
  | zero =>
    have := h j (by omega) h2
    rw [show j - 1 = i by omega] at this
    exact this
  | succ n ih =>
    have h3 := ih (j := j - 1) (by omega) (by omega) (by omega)
    have h4 := h j (by omega) h2
    omega
/-- So many IDs are less. -/
def Cut (l : List Bld) (id i : Int) : Prop := (0 ≤ i ∧ i ≤ l.length) ∧ (∀ j : Int, 0 ≤ j → j < i → (gi l j).id < id) ∧ ∀ j : Int, i ≤ j → j < l.length → id ≤ (gi l j).id
theorem Cut.uniq {l : List Bld} {id i k : Int} (h : Cut l id i) (h' : Cut l id k) : i = k := by
  obtain ⟨⟨a0, a1⟩, a2, a3⟩ := h
  obtain ⟨⟨b0, b1⟩, b2, b3⟩ := h'
  apply Classical.byContradiction; intro hne
  by_cases hlt : i < k
  · have := b2 i a0 hlt
    have := a3 i (Int.le_refl _) (by omega)
    omega
  · have := a2 k b0 (by omega)
    have := b3 k (Int.le_refl _) (by omega)
    omega
/-- What one more makes of buildings. -/
def AddR (g : Grd) (l : List Bld) (b : Bld) (r : List Bld × Int) : Prop :=
  (¬ SOk b ∧ r = ([], 1)) ∨ (SOk b ∧ ¬ NOk g b ∧ r = ([], 3)) ∨ (SOk b ∧ NOk g b ∧ (∃ i : Int, 0 ≤ i ∧ i < l.length ∧ ((gi l i).id = b.id ∨ Meet (gi l i) b)) ∧ r = ([], 12)) ∨
  (SOk b ∧ NOk g b ∧ (¬ ∃ i : Int, 0 ≤ i ∧ i < l.length ∧ ((gi l i).id = b.id ∨ Meet (gi l i) b)) ∧ ((¬ Fm g b ∧ r = ([], 5)) ∨ (Fm g b ∧ 256 ≤ (l.length : Int) ∧ r = ([], 4)) ∨ (Fm g b ∧ (l.length : Int) < 256 ∧ ∃ i, Cut l b.id i ∧ r = (l.take i.toNat ++ [b] ++ l.drop i.toNat, 0))))
theorem AddR.uniq {g : Grd} {l : List Bld} {b : Bld} {r s : List Bld × Int} (h : AddR g l b r) (k : AddR g l b s) : r = s := by
  rcases h with ⟨a1, rfl⟩ | ⟨a1, a2, rfl⟩ | ⟨a1, a2, a3, rfl⟩ | ⟨a1, a2, a3, h⟩ <;> rcases k with ⟨b1, rfl⟩ | ⟨b1, b2, rfl⟩ | ⟨b1, b2, b3, rfl⟩ | ⟨b1, b2, b3, k⟩ <;> first | rfl | (exfalso; first | exact a1 b1 | exact b1 a1 | exact a2 b2 | exact b2 a2 | exact a3 b3 | exact b3 a3) | skip
  rcases h with ⟨a4, rfl⟩ | ⟨a4, a5, rfl⟩ | ⟨a4, a5, i, a6, rfl⟩ <;> rcases k with ⟨b4, rfl⟩ | ⟨b4, b5, rfl⟩ | ⟨b4, b5, j, b6, rfl⟩ <;> first | rfl | (exfalso; first | exact a4 b4 | exact b4 a4 | omega) | skip
  rw [a6.uniq b6]
/-- What stands there without one. -/
def DropR (l : List Bld) (id : Int) (r : List Bld × Int) : Prop :=
  (r = ([], 3) ∧ ∀ i : Int, 0 ≤ i → i < l.length → ¬ (gi l i).id = id) ∨ ∃ i : Int, (0 ≤ i ∧ i < l.length) ∧ (gi l i).id = id ∧ r = (l.take i.toNat ++ l.drop (i.toNat + 1), 0)
theorem DropR.uniq {l : List Bld} (h : Ris l) {id : Int} {r s : List Bld × Int} (a : DropR l id r) (b : DropR l id s) : r = s := by
  rcases a with ⟨rfl, a⟩ | ⟨i, a1, a2, rfl⟩ <;> rcases b with ⟨rfl, b⟩ | ⟨j, b1, b2, rfl⟩
  · rfl
  · exact absurd b2 (a j b1.1 b1.2)
  · exact absurd a2 (b i a1.1 a1.2)
  · have : i = j := by
      apply Classical.byContradiction; intro hne
      by_cases hlt : i < j
      · have := h.lt a1.1 hlt b1.2; omega
      · have := h.lt b1.1 (show j < i by omega) a1.2; omega
    rw [this]
end Go.Proofs.Ytiipgdmcgmbbkaa
