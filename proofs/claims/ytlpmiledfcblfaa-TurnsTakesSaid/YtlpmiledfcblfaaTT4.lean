/-
  TurnsTakes, as a pure function, is true. For arguments that are Go's.
-/
import Derived.Test.YtlpmiledfcblfaaTT0
import Derived.Test.YtlpmiledfcblfaaTG4
set_option linter.unusedVariables false
set_option linter.unusedSimpArgs false
namespace Go.Proofs.Ytlpmiledfcblfaa
open Go.Vg Go.Lib
theorem takes_law {p : Ask27} (h : p.Wf) : thronglaw27_TurnsTakes p = some true := by
  unfold thronglaw27_TurnsTakes
  obtain ⟨b, e, hb⟩ := heavy_p h
  rw [e, bsome]
  cases b with
  | true => rw [if_pos rfl]
  | false =>
    obtain ⟨⟨hl, hl8, hlc⟩, ⟨hm, hm8, hmc⟩, ht⟩ := hb rfl
    rw [if_neg (by simp)]
    refine Ok.eq (Ok.bind (scanOk (a := 0) (n := min p.ts.length 10) (fun _ => True) (fun _ => False) (by omega) (fun v v0 v1 _ => ?_) (fun v v0 v1 => by rw [if_neg (by omega)])) ?_)
    · rw [if_pos (by omega)]
      have fS : ∀ q : Inp → Bool, InpsS (p.l.filter q) := fun q => ⟨Nat.le_trans (List.length_filter_le _ _) hl.1, fun i hi => hl.2 i (List.mem_filter.1 hi).1⟩
      by_cases hlo : ListOk p.l
      · have e2 : turns_Take p.l (gi p.ts v) = some (p.l.filter (fun i => decide (i.turn = gi p.ts v)), p.l.filter (fun i => !decide (i.turn = gi p.ts v)), 0) := by
          unfold turns_Take
          rw [(rising_b hl).t hlo, bsome, if_neg (by simp), part_p hl, bsome]
        refine Ok.bindE ((list_b hl).t hlo) (Ok.bindE (x := ((0 : Int), p.l.filter (fun i => decide (i.turn = gi p.ts v)), p.l.filter (fun i => !decide (i.turn = gi p.ts v)))) ?_ ?_)
        · rw [if_pos rfl, if_pos ⟨v0, by omega⟩, takeR_p hl, bsome]
        · dsimp only
          rw [copyIs_p hl, bsome]
          refine Ok.gd ⟨v0, by omega⟩ ?_
          rw [e2, bsome, num27_p, bsome]
          refine Ok.bindE (x := false) ?_ (Ok.bindE (x := false) ?_ (Ok.bindE (x := false) ?_ ?_))
          · rw [if_neg (by simp), eqIs_p (fS _), bsome]; simp
          · rw [if_neg (by simp), eqIs_p (fS _), bsome]; simp
          · rw [if_neg (by simp), eqIs_p hl, bsome]; simp
          · rw [if_neg (by simp), inputs_p (fS _), bsome, inputs_p (fS _), bsome, eqIs_p hl, bsome]
            exact Ok.ite (fun hc => by simp at hc) (fun _ => Ok.gd (by unfold I64; omega) (Ok.ret ⟨rfl, trivial⟩))
      · have e2 : turns_Take p.l (gi p.ts v) = some ([], [], 1) := by
          unfold turns_Take
          rw [(rising_b hl).f hlo, bsome, if_pos (by rfl)]
        have nS : InpsS [] := ⟨by simp, fun i hi => by simp at hi⟩
        refine Ok.bindE ((list_b hl).f hlo) (Ok.bindE (x := ((1 : Int), [], [])) ?_ ?_)
        · rw [if_neg (by simp)]
        · dsimp only
          rw [copyIs_p hl, bsome]
          refine Ok.gd ⟨v0, by omega⟩ ?_
          rw [e2, bsome, num27_p, bsome]
          refine Ok.bindE (x := false) ?_ (Ok.bindE (x := false) ?_ (Ok.bindE (x := false) ?_ ?_))
          · rw [if_neg (by simp), eqIs_p nS, bsome]; simp
          · rw [if_neg (by simp), eqIs_p nS, bsome]; simp
          · rw [if_neg (by simp), eqIs_p hl, bsome]; simp
          · rw [if_neg (by simp), inputs_p nS, bsome, bsome, eqIs_p hl, bsome]
            exact Ok.ite (fun hc => by simp at hc) (fun _ => Ok.gd (by unfold I64; omega) (Ok.ret ⟨rfl, trivial⟩))
    · rintro (_ | _) hx
      · dsimp only [Ex.then]
        rw [wakes27_p, bsome]; exact Ok.ret rfl
      · exact hx.elim
end Go.Proofs.Ytlpmiledfcblfaa
