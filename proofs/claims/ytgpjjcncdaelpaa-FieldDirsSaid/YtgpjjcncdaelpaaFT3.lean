/-
  FieldDirs, as a pure function, is true. For arguments that are Go's.
-/
import Derived.Test.YtgpjjcncdaelpaaFC
import Derived.Test.YtgpjjcncdaelpaaFT1
import Derived.Test.YtgpjjcncdaelpaaFG3
set_option linter.unusedVariables false
set_option linter.unusedSimpArgs false
namespace Go.Proofs.Ytgpjjcncdaelpaa
open Go.Vg
theorem bsome_id3 {α : Type} (m : Option α) : (m.bind fun b => some b) = m := by cases m <;> rfl
theorem dirs_law {p : Ask13} : thronglaw13_FieldDirs p = some true := by
  unfold thronglaw13_FieldDirs
  rw [heavy13_p, bsome]
  refine Ok.eq (Ok.ite (fun _ => Ok.ret rfl) (fun hh => ?_))
  have hz : (p.g.tiles.length : Int) ≤ 700 ∧ (p.l.length : Int) ≤ 30 ∧ (p.ts.length : Int) ≤ 30 := by simp at hh; omega
  refine Ok.bind (scanOk (a := 0) (n := min p.ts.length 6) (fun _ => True) (fun _ => False) (by omega) (fun v v0 v1 _ => ?_) (fun v v0 v1 => by rw [if_neg (by omega)])) ?_
  · rw [if_pos (by omega)]
    have hv : 0 ≤ v ∧ v < (p.ts.length : Int) := by omega
    obtain ⟨f, b, bad, want, e0, e1, e2, e3, e4, hl⟩ : ∃ (f : Int) (b : Bool) (bad : Int) (want : List Int), thronglaw13_form p = some f ∧
        Option.bind (if f = 0 then (if 0 ≤ v ∧ v < (p.ts.length : Int) then Option.bind (throngref5_Tile p.g (gi p.ts v)) fun x => some (!x) else none) else some false) (fun b => some b) = some b ∧ (if b = true then some 3 else some f) = some bad ∧
        (if bad = 0 then (if 0 ≤ v ∧ v < (p.ts.length : Int) then Option.bind (throngref13_Dirs p.g p.l p.cls p.size (gi p.ts v)) fun x => some x else none) else some []) = some want ∧
        field_Dirs p.g p.l p.cls p.size (gi p.ts v) = some (want, bad) ∧ want.length < 1099511627776 := by
      obtain ⟨f, ef, ⟨rfl, ha⟩ | ⟨rfl, hno⟩⟩ := form13_b (p := p) (by omega) (by omega)
      · have hg := ha.1.1
        have har := hg.area
        by_cases ht : 0 ≤ gi p.ts v ∧ gi p.ts v < p.g.w * p.g.h
        · obtain ⟨d, dl, d1, d2⟩ := dirs_eq ha ht (by omega) (by omega)
          refine ⟨0, false, 0, d, ef, ?_, rfl, ?_, d1, by omega⟩
          · rw [if_pos rfl, if_pos hv, tile13_p hg, bsome, bsome, decide_eq_true ht]; rfl
          · rw [if_pos rfl, if_pos hv, d2, bsome]
        · refine ⟨0, true, 3, [], ef, ?_, rfl, rfl, ?_, by simp⟩
          · rw [if_pos rfl, if_pos hv, tile13_p hg, bsome, bsome, decide_eq_false ht]; rfl
          · exact (make_no (by omega) ((ask_p ha (by omega) (by omega)).trans (by rw [if_neg ht]))).2
      · refine ⟨1, false, 1, [], ef, rfl, rfl, rfl, ?_, by simp⟩
        exact (make_no (by omega) (ask_no hno (by omega) (by omega))).2
    rw [bsome_id3] at e1
    refine Ok.bindE e0 (Ok.bindE e1 (Ok.bindE e2 (Ok.bindE e3 ?_)))
    rw [if_pos hv, e4, bsome, num13_p, bsome]
    refine Ok.bindE (x := false) (by rw [if_neg (fun h => h rfl), eqN13_p (by dsimp only; omega), bsome, decide_eq_true rfl]; rfl) ?_
    rw [if_neg (by simp), numbers_p (by dsimp only; omega), bsome]
    exact Ok.gd (by unfold I64; omega) (Ok.ret ⟨rfl, trivial⟩)
  · rintro (_ | _) hx
    · dsimp only [Ex.then]
      rw [wakes13_p]
      exact Ok.ret rfl
    · exact hx.elim
end Go.Proofs.Ytgpjjcncdaelpaa
