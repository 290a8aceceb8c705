/-
  The plain side of the sectors: how many there are, which one a tile is of. No program in sight; the conditions stand in each lemma.
-/
set_option linter.unusedVariables false
namespace Go.Proofs.Ytddicdmleeaihaa
namespace Sp
def acr (n : Int) : Int := (n + 8 - 1) / 8
def atS (w t : Int) : Int := t % w / 8 + acr w * (t / w / 8)
def May (w h : Int) : Prop := (1 ≤ w ∧ w ≤ 128) ∧ (1 ≤ h ∧ h ≤ 128)
instance (w h : Int) : Decidable (May w h) := by unfold May; exact inferInstance
def cntV (w h : Int) : Int := if May w h then acr w * acr h else 0
def cntE (w h : Int) : Int := if May w h then 0 else 1
def ofV (w h t : Int) : Int := if May w h ∧ 0 ≤ t ∧ t < w * h then atS w t else 0
def ofE (w h t : Int) : Int := if May w h then (if 0 ≤ t ∧ t < w * h then 0 else 3) else 1
theorem divmod {w t : Int} (hw : 1 ≤ w) (ht : 0 ≤ t) : 0 ≤ t % w ∧ t % w < w ∧ 0 ≤ t / w ∧ t / w ≤ t ∧ w * (t / w) + t % w = t :=
  ⟨Int.emod_nonneg _ (by omega), Int.emod_lt_of_pos _ (by omega), Int.ediv_nonneg ht (by omega), Int.ediv_le_self _ ht, Int.mul_ediv_add_emod t w⟩
theorem last {w h : Int} (hw : 1 ≤ w) (hh : 1 ≤ h) : (w * h - 1) % w = w - 1 ∧ (w * h - 1) / w = h - 1 := by
  have e : w * h - 1 = (w - 1) + w * (h - 1) := by rw [Int.mul_sub]; omega
  rw [e]
  constructor
  · rw [Int.add_mul_emod_self_left, Int.emod_eq_of_lt (by omega) (by omega)]
  · rw [Int.add_mul_ediv_left _ _ (by omega), Int.ediv_eq_zero_of_lt (by omega) (by omega)]; omega
theorem edges {w h : Int} (hw : 1 ≤ w ∧ w ≤ 128) (hh : 1 ≤ h ∧ h ≤ 128) :
    cntE w h = 0 ∧ ofE w h 0 = 0 ∧ ofE w h (w * h - 1) = 0 ∧ ofE w h (w - 1) = 0 ∧ cntV w h = (w + 7) / 8 * ((h + 7) / 8) ∧ ofV w h 0 = 0 ∧ ofV w h (w * h - 1) = cntV w h - 1 ∧ ofV w h (w - 1) = (w + 7) / 8 - 1 := by
  have hm : May w h := ⟨hw, hh⟩
  have hwh : w ≤ w * h := by have := Int.mul_le_mul_of_nonneg_left hh.1 (show 0 ≤ w by omega); omega
  have ea : ∀ n : Int, acr n = (n + 7) / 8 := fun n => by unfold acr; congr 1; omega
  have eb : ∀ n : Int, 1 ≤ n → (n + 7) / 8 = (n - 1) / 8 + 1 := fun n hn => by omega
  have hl := last hw.1 hh.1
  unfold cntE ofE ofV cntV
  have f1 : (0 : Int) ≤ 0 ∧ 0 < w * h := by omega
  have f2 : 0 ≤ w * h - 1 ∧ w * h - 1 < w * h := by omega
  have f3 : 0 ≤ w - 1 ∧ w - 1 < w * h := by omega
  simp only [if_pos hm, if_pos f1, if_pos f2, if_pos f3, if_pos (And.intro hm f1), if_pos (And.intro hm f2), if_pos (And.intro hm f3)]
  refine ⟨trivial, trivial, trivial, trivial, by rw [ea, ea], ?_, ?_, ?_⟩
  · unfold atS; simp
  · unfold atS
    rw [hl.1, hl.2, ea w, ea h, eb h hh.1, Int.mul_add]
    have := eb w hw.1
    omega
  · unfold atS
    rw [Int.emod_eq_of_lt (a := w - 1) (b := w) (by omega) (by omega), Int.ediv_eq_zero_of_lt (a := w - 1) (b := w) (by omega) (by omega)]
    have := eb w hw.1
    simp; omega
end Sp
end Go.Proofs.Ytddicdmleeaihaa
