/-
  TurnsChecks, as a pure function, is true. For arguments that are Go's.
-/
import Derived.Test.YtlpmiledfcblfaaTT0
import Derived.Test.YtlpmiledfcblfaaTG1
set_option linter.unusedVariables false
set_option linter.unusedSimpArgs false
namespace Go.Proofs.Ytlpmiledfcblfaa
open Go.Vg Go.Lib
theorem checks_law {p : Ask27} (h : p.Wf) : thronglaw27_TurnsChecks p = some true := by
  unfold thronglaw27_TurnsChecks
  obtain ⟨b, e, hb⟩ := heavy_p h
  rw [e, bsome]
  cases b with
  | true => rw [if_pos rfl]
  | false =>
    obtain ⟨⟨hl, hl8, hlc⟩, ⟨hm, hm8, hmc⟩, ht⟩ := hb rfl
    rw [if_neg (by simp)]
    refine Ok.eq (Ok.bind (scanOk (a := 0) (n := min p.more.length 30) (fun _ => True) (fun _ => False) (by omega) (fun v v0 v1 _ => ?_) (fun v v0 v1 => by rw [if_neg (by omega)])) ?_)
    · rw [if_pos (by omega)]
      have hS := hm.2 _ (gi_mem (xs := p.more) (j := v) ⟨v0, by omega⟩)
      refine Ok.gd ⟨v0, by omega⟩ ?_
      rw [copyI_p hS, bsome]
      by_cases ho : InpOk (gi p.more v)
      · rw [checkT hS ho, bsome, num27_p, bsome]
        refine Ok.gd ⟨v0, by omega⟩ ?_
        rw [(mayR_b hS).t ho, bsome]
        refine Ok.bindE (x := false) ?_ ?_
        · rw [if_neg (by simp), if_pos ⟨v0, by omega⟩, eqI_p hS, bsome]; simp
        · rw [if_neg (by simp)]
          exact Ok.gd (by unfold I64; omega) (Ok.ret ⟨rfl, trivial⟩)
      · rw [checkF hS ho, bsome, num27_p, bsome]
        refine Ok.gd ⟨v0, by omega⟩ ?_
        rw [(mayR_b hS).f ho, bsome]
        refine Ok.bindE (x := false) ?_ ?_
        · rw [if_neg (by simp), if_pos ⟨v0, by omega⟩, eqI_p hS, bsome]; simp
        · rw [if_neg (by simp)]
          exact Ok.gd (by unfold I64; omega) (Ok.ret ⟨rfl, trivial⟩)
    · rintro (_ | _) hx
      · dsimp only [Ex.then]
        rw [wakes27_p, bsome]; exact Ok.ret rfl
      · exact hx.elim
end Go.Proofs.Ytlpmiledfcblfaa
