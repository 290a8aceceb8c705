/-
  The plain side of a sector's tiles: which they are, that they rise. No program in sight; the conditions stand in each lemma.
-/
import Derived.Test.YtddicdmleeaihaaSP
set_option linter.unusedVariables false
namespace Go.Proofs.Ytddicdmleeaihaa
namespace Sp
/-- A sector's tiles, rising. -/
def TilesOk (w h s : Int) (l : List Int) : Prop := (∀ t, t ∈ l ↔ 0 ≤ t ∧ t < w * h ∧ atS w t = s) ∧ l.Pairwise (· < ·)
/-- Those that have been met. -/
def TI (w x xe y j i : Int) (l : List Int) : Prop := (∀ t, t ∈ l ↔ 0 ≤ t ∧ x ≤ t % w ∧ t % w < xe ∧ y ≤ t / w ∧ (t / w < j ∨ t / w = j ∧ t % w < i)) ∧ l.Pairwise (· < ·)
theorem dm {w i j : Int} (hi : 0 ≤ i ∧ i < w) (hj : 0 ≤ j) : (i + w * j) % w = i ∧ (i + w * j) / w = j ∧ 0 ≤ i + w * j := by
  refine ⟨by rw [Int.add_mul_emod_self_left, Int.emod_eq_of_lt hi.1 hi.2], by rw [Int.add_mul_ediv_left _ _ (by omega), Int.ediv_eq_zero_of_lt hi.1 hi.2]; omega, ?_⟩
  have := Int.mul_nonneg (show 0 ≤ w by omega) hj
  omega
theorem dm_lt {w a b : Int} (hw : 1 ≤ w) (h : a / w < b / w ∨ a / w = b / w ∧ a % w < b % w) : a < b := by
  have ha := Int.mul_ediv_add_emod a w
  have hb := Int.mul_ediv_add_emod b w
  have h1 := Int.emod_lt_of_pos a (show 0 < w by omega)
  have h2 := Int.emod_nonneg b (show w ≠ 0 by omega)
  rcases h with h | ⟨h, h'⟩
  · have := Int.mul_le_mul_of_nonneg_left (show a / w + 1 ≤ b / w by omega) (show 0 ≤ w by omega)
    rw [Int.mul_add] at this
    omega
  · rw [h] at ha; omega
theorem TI.start {w x xe y : Int} : TI w x xe y y x [] := by
  refine ⟨fun t => ⟨fun h => by simp at h, fun h => by omega⟩, List.Pairwise.nil⟩
theorem TI.step {w x xe y j i : Int} {l : List Int} (h : TI w x xe y j i l) (hx : 0 ≤ x ∧ x ≤ i ∧ i < xe ∧ xe ≤ w) (hy : 0 ≤ y ∧ y ≤ j) : TI w x xe y j (i + 1) (l ++ [i + w * j]) := by
  obtain ⟨e1, e2, e3⟩ := dm (w := w) (i := i) (j := j) (by omega) (by omega)
  refine ⟨fun t => ?_, List.pairwise_append.2 ⟨h.2, List.pairwise_singleton _ _, fun a ha b hb => ?_⟩⟩
  · rw [List.mem_append, h.1 t, List.mem_singleton]
    constructor
    · rintro (h1 | rfl)
      · omega
      · rw [e1, e2]; omega
    · intro h1
      by_cases ht : t / w = j ∧ t % w = i
      · right
        have := Int.mul_ediv_add_emod t w
        rw [ht.1, ht.2] at this; omega
      · left; omega
  · rw [List.mem_singleton] at hb
    subst hb
    have := (h.1 a).1 ha
    exact dm_lt (show 1 ≤ w by omega) (by rw [e1, e2]; omega)
theorem TI.next {w x xe y j : Int} {l : List Int} (h : TI w x xe y j xe l) : TI w x xe y (j + 1) x l :=
  ⟨fun t => by rw [h.1 t]; omega, h.2⟩
/-- From a row whose tiles are not there at all. -/
theorem TI.skip {w x xe y j i : Int} {l : List Int} (h : TI w x xe y j i l) (hi : xe ≤ i) : TI w x xe y (j + 1) x l :=
  ⟨fun t => by rw [h.1 t]; omega, h.2⟩
theorem TI.done {w h s y j x i : Int} {l : List Int} (hw : 1 ≤ w ∧ w ≤ 128) (hh : 1 ≤ h ∧ h ≤ 128) (hs : 0 ≤ s ∧ s < acr w * acr h) (hx : x = s % acr w * 8) (hy : y = s / acr w * 8) (hj : j = max y (min (y + 8) h))
    (ht : TI w x (min (x + 8) w) y j x l) : TilesOk w h s l := by
  have ha : 1 ≤ acr w := by unfold acr; omega
  refine ⟨fun t => ?_, ht.2⟩
  rw [ht.1 t]
  have hsm := Int.mul_ediv_add_emod s (acr w)
  have hs1 := Int.emod_nonneg s (show acr w ≠ 0 by omega)
  have hs2 := Int.emod_lt_of_pos s (show 0 < acr w by omega)
  have hs3 : 0 ≤ s / acr w := Int.ediv_nonneg hs.1 (by omega)
  constructor
  · rintro ⟨h0, h1, h2, h3, h4⟩
    have hd := divmod hw.1 h0
    have hth : t / w < h := by omega
    refine ⟨h0, ?_, ?_⟩
    · have := Int.mul_le_mul_of_nonneg_left (show t / w + 1 ≤ h by omega) (show 0 ≤ w by omega)
      rw [Int.mul_add] at this
      omega
    · unfold atS
      rw [show t % w / 8 = s % acr w by omega, show t / w / 8 = s / acr w by omega]
      omega
  · rintro ⟨h0, h1, h2⟩
    have hd := divmod hw.1 h0
    have hth : t / w < h := Int.ediv_lt_of_lt_mul (by omega) (by rw [Int.mul_comm]; exact h1)
    have hr : 0 ≤ t % w / 8 ∧ t % w / 8 < acr w := by unfold acr; omega
    have hq : 0 ≤ t / w / 8 := by omega
    unfold atS at h2
    have e1 : s % acr w = t % w / 8 := by rw [← h2, Int.add_mul_emod_self_left, Int.emod_eq_of_lt hr.1 hr.2]
    have e2 : s / acr w = t / w / 8 := by rw [← h2, Int.add_mul_ediv_left _ _ (by omega), Int.ediv_eq_zero_of_lt hr.1 hr.2]; omega
    omega
end Sp
end Go.Proofs.Ytddicdmleeaihaa
