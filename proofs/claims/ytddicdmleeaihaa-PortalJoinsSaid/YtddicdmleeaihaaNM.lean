/-
  The lists of tiles beside one, the program's and the page's, are the neighbours. No program in sight; the conditions stand in each lemma.
-/
import Derived.Test.YtddicdmleeaihaaNB
import Derived.Test.YtddicdmleeaihaaSD
import Derived.Test.YtddicdmleeaihaaGR
set_option linter.unusedVariables false
namespace Go.Proofs.Ytddicdmleeaihaa
namespace Sp
theorem mem_bs4 {W H t u : Int} : u ∈ bs4 W H t ↔ nbr W H t u := by
  unfold bs4 bs3 bs2 bs1 nbr
  simp only [List.mem_append]
  split <;> split <;> split <;> split <;> simp_all <;> omega
theorem w0 : wx 0 = 0 ∧ wy 0 = -1 ∧ wx 1 = 1 ∧ wy 1 = 0 ∧ wx 2 = 0 ∧ wy 2 = 1 ∧ wx 3 = -1 ∧ wy 3 = 0 := by decide
theorem nb_four {W H t : Int} (hW : 1 ≤ W) (ht : 0 ≤ t ∧ t < W * H) :
    nb W H t 0 = (if 0 < t / W then t - W else -1) ∧ nb W H t 1 = (if t % W < W - 1 then t + 1 else -1) ∧ nb W H t 2 = (if t / W < H - 1 then t + W else -1) ∧ nb W H t 3 = (if 0 < t % W then t - 1 else -1) := by
  have hd := divmod hW ht.1
  have hth : t / W < H := Int.ediv_lt_of_lt_mul (by omega) (by rw [Int.mul_comm]; exact ht.2)
  obtain ⟨a, b, c, d, e, f, g, h⟩ := w0
  have e1 : W * (t / W + -1) = W * (t / W) - W := by rw [Int.mul_add]; omega
  have e2 : W * (t / W + 1) = W * (t / W) + W := by rw [Int.mul_add]; omega
  have e3 : W * (t / W + 0) = W * (t / W) := by rw [Int.add_zero]
  unfold nb
  rw [a, b, c, d, e, f, g, h, e1, e2, e3]
  refine ⟨?_, ?_, ?_, ?_⟩ <;> split <;> split <;> omega
theorem nb_nbr {W H t k : Int} (hW : 1 ≤ W) (ht : 0 ≤ t ∧ t < W * H) (hk : 0 ≤ k ∧ k < 4) (h : 0 ≤ nb W H t k) : nbr W H t (nb W H t k) := by
  obtain ⟨a, b, c, d⟩ := nb_four hW ht
  unfold nbr
  rcases (show k = 0 ∨ k = 1 ∨ k = 2 ∨ k = 3 by omega) with rfl | rfl | rfl | rfl
  · rw [a] at h ⊢; split at h <;> omega
  · rw [b] at h ⊢; split at h <;> omega
  · rw [c] at h ⊢; split at h <;> omega
  · rw [d] at h ⊢; split at h <;> omega
theorem nbr_nb {W H t u : Int} (hW : 1 ≤ W) (ht : 0 ≤ t ∧ t < W * H) (h : nbr W H t u) : ∃ k, 0 ≤ k ∧ k < 4 ∧ nb W H t k = u := by
  obtain ⟨a, b, c, d⟩ := nb_four hW ht
  rcases h with ⟨h, h'⟩ | ⟨h, h'⟩ | ⟨h, h'⟩ | ⟨h, h'⟩
  · exact ⟨0, by omega, by omega, by rw [a, if_pos h', h]⟩
  · exact ⟨1, by omega, by omega, by rw [b, if_pos h', h]⟩
  · exact ⟨2, by omega, by omega, by rw [c, if_pos h', h]⟩
  · exact ⟨3, by omega, by omega, by rw [d, if_pos h', h]⟩
end Sp
end Go.Proofs.Ytddicdmleeaihaa
