/-
  PortalFinds, as a pure function, is true.
-/
import Derived.Test.YtddicdmleeaihaaPQF
import Derived.Test.YtddicdmleeaihaaPQG1
set_option linter.unusedVariables false
set_option linter.unusedSimpArgs false
namespace Go.Proofs.Ytddicdmleeaihaa
open Go.Vg Sp
theorem finds_law {p : Ask} : thronglaw11_PortalFinds p = some true := by
  unfold thronglaw11_PortalFinds
  have hh : thronglaw11_heavy p = some (decide (900 < (p.Free.length : Int))) := rfl
  rw [hh, bsome]
  refine Ok.eq (Ok.ite (fun _ => Ok.ret rfl) (fun hn => ?_))
  rw [decide_eq_true_iff] at hn
  rw [mayR_p, bsome, copyB_p (by omega)]
  by_cases h : May p.W p.H ∧ (p.Free.length : Int) = p.W * p.H
  · obtain ⟨l, h1, h2, h3, h4⟩ := find_p h.1 h.2
    rw [decide_eq_true h, if_pos rfl, h2, bsome, bsome]
    dsimp only
    rw [bsome, h1, bsome, num11_p, bsome]
    dsimp only
    rw [if_neg (by simp), eqP_p (by omega), bsome, bsome, if_neg (by simp), eqB_p (by omega), bsome, bsome, if_neg (by simp)]
    refine Ok.bind (spoilP_p (by omega)) fun _ _ => ?_
    rw [wakes_p, bsome]; exact Ok.ret rfl
  · rw [decide_eq_false h, if_neg (by simp), bsome]
    dsimp only
    rw [bsome, find_n h, bsome, num11_p, bsome]
    dsimp only
    rw [if_neg (by simp), eqP_p (by simp), bsome, bsome, if_neg (by simp), eqB_p (by omega), bsome, bsome, if_neg (by simp)]
    refine Ok.bind (spoilP_p (by simp)) fun _ _ => ?_
    rw [wakes_p, bsome]; exact Ok.ret rfl
end Go.Proofs.Ytddicdmleeaihaa
