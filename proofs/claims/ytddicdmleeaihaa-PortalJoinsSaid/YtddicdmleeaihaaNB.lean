/-
  The plain side of tiles beside one another. No program in sight; the conditions stand in each lemma.
-/
import Derived.Test.YtddicdmleeaihaaST
import Derived.Test.YtddicdmleeaihaaFF
set_option linter.unusedVariables false
namespace Go.Proofs.Ytddicdmleeaihaa
namespace Sp
/-- Above, right, below, left. -/
def nbr (W H t u : Int) : Prop := (u = t - W ∧ 0 < t / W) ∨ (u = t + 1 ∧ t % W < W - 1) ∨ (u = t + W ∧ t / W < H - 1) ∨ (u = t - 1 ∧ 0 < t % W)
theorem dm_of {W a i j : Int} (hi : 0 ≤ i ∧ i < W) (hj : 0 ≤ j) (h : a = i + W * j) : a % W = i ∧ a / W = j := by
  have := dm hi hj
  rw [h]; exact ⟨this.1, this.2.1⟩
theorem nbr_xy {W H t u : Int} (hW : 1 ≤ W) (ht : 0 ≤ t) (h : nbr W H t u) :
    (u % W = t % W ∧ u / W = t / W - 1 ∧ 0 < t / W) ∨ (u % W = t % W + 1 ∧ u / W = t / W ∧ t % W < W - 1) ∨ (u % W = t % W ∧ u / W = t / W + 1 ∧ t / W < H - 1) ∨ (u % W = t % W - 1 ∧ u / W = t / W ∧ 0 < t % W) := by
  have hd := divmod hW ht
  rcases h with ⟨rfl, h⟩ | ⟨rfl, h⟩ | ⟨rfl, h⟩ | ⟨rfl, h⟩
  · have := dm_of (W := W) (a := t - W) (i := t % W) (j := t / W - 1) (by omega) (by omega) (by rw [Int.mul_sub]; omega)
    left; omega
  · have := dm_of (W := W) (a := t + 1) (i := t % W + 1) (j := t / W) (by omega) (by omega) (by omega)
    right; left; omega
  · have := dm_of (W := W) (a := t + W) (i := t % W) (j := t / W + 1) (by omega) (by omega) (by rw [Int.mul_add]; omega)
    right; right; left; omega
  · have := dm_of (W := W) (a := t - 1) (i := t % W - 1) (j := t / W) (by omega) (by omega) (by omega)
    right; right; right; omega
theorem nbr_in {W H t u : Int} (hW : 1 ≤ W) (ht : 0 ≤ t ∧ t < W * H) (h : nbr W H t u) : 0 ≤ u ∧ u < W * H := by
  have hd := divmod hW ht.1
  have hth : t / W < H := Int.ediv_lt_of_lt_mul (by omega) (by rw [Int.mul_comm]; exact ht.2)
  have hxy := nbr_xy hW ht.1 h
  have h1 : W * (t / W - 1) = W * (t / W) - W := by rw [Int.mul_sub]; omega
  have h2 : 0 < t / W → 0 ≤ W * (t / W - 1) := fun h => Int.mul_nonneg (by omega) (by omega)
  have h3 : t / W < H - 1 → W * (t / W + 2) ≤ W * H := fun h => Int.mul_le_mul_of_nonneg_left (by omega) (by omega)
  have h4 : W * (t / W + 1) ≤ W * H := Int.mul_le_mul_of_nonneg_left (by omega) (by omega)
  rw [Int.mul_add] at h3 h4
  have h5 := Int.mul_nonneg (show 0 ≤ W by omega) hd.2.2.1
  rcases h with ⟨rfl, h⟩ | ⟨rfl, h⟩ | ⟨rfl, h⟩ | ⟨rfl, h⟩
  · have := h2 h; omega
  · omega
  · have := h3 h; omega
  · omega
theorem nbr_symm {W H t u : Int} (hW : 1 ≤ W) (ht : 0 ≤ t ∧ t < W * H) (h : nbr W H t u) : nbr W H u t := by
  have hd := divmod hW ht.1
  have hth : t / W < H := Int.ediv_lt_of_lt_mul (by omega) (by rw [Int.mul_comm]; exact ht.2)
  have hxy := nbr_xy hW ht.1 h
  have hi := nbr_in hW ht h
  have hu := divmod hW hi.1
  unfold nbr at *
  rcases h with ⟨h, h'⟩ | ⟨h, h'⟩ | ⟨h, h'⟩ | ⟨h, h'⟩
  · right; right; left
    subst h
    have := dm_of (W := W) (a := t - W) (i := t % W) (j := t / W - 1) (by omega) (by omega) (by rw [Int.mul_sub]; omega)
    omega
  · right; right; right
    subst h
    have := dm_of (W := W) (a := t + 1) (i := t % W + 1) (j := t / W) (by omega) (by omega) (by omega)
    omega
  · left
    subst h
    have := dm_of (W := W) (a := t + W) (i := t % W) (j := t / W + 1) (by omega) (by omega) (by rw [Int.mul_add]; omega)
    omega
  · right; left
    subst h
    have := dm_of (W := W) (a := t - 1) (i := t % W - 1) (j := t / W) (by omega) (by omega) (by omega)
    omega
end Sp
end Go.Proofs.Ytddicdmleeaihaa
