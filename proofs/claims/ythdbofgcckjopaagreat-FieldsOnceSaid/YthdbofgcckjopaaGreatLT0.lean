/-
  What both statements ask first.
-/
import Derived.Test.YthdbofgcckjopaaGreatLT
set_option linter.unusedVariables false
set_option linter.unusedSimpArgs false
set_option maxRecDepth 20000
namespace Go.Proofs.YthdbofgcckjopaaGreat
open Go.Vg
def Small (p : Ask13) : Prop := (p.g.tiles.length : Int) ≤ 700 ∧ (p.l.length : Int) ≤ 30 ∧ (p.ts.length : Int) ≤ 30
theorem heavy18_b (p : Scr18) : Ok (thronglaw18_heavy p) fun r => r = true ∨ ((p.l.length : Int) ≤ 6 ∧ (p.order.length : Int) ≤ 60 ∧ ∀ v : Int, 0 ≤ v → v < p.l.length → Small (gi p.l v)) := by
  unfold thronglaw18_heavy
  refine Ok.bind (R := fun x => match x with | .up r => r = true | .go _ => (p.l.length : Int) ≤ 6 ∧ ∀ v : Int, 0 ≤ v → v < p.l.length → Small (gi p.l v)) (Ok.loop (fun v : Int => 0 ≤ v ∧ v ≤ p.l.length ∧ v ≤ 6 ∧ ∀ u : Int, 0 ≤ u → u < v → Small (gi p.l u)) (fun v => (6 - v).toNat) ⟨Int.le_refl _, by omega, by omega, fun u h0 h1 => by omega⟩ (by unfold FUEL; omega) ?_) ?_
  · rintro v ⟨h0, h1, h2, hq⟩
    refine Ok.ite (fun hlt => ?_) (fun hlt => Ok.ret ⟨by omega, fun u u0 u1 => hq u u0 (by omega)⟩)
    by_cases h6 : 6 ≤ v
    · rw [if_pos h6, bsome, if_pos rfl]
      exact Ok.ret rfl
    · have hv : thronglaw13_Heavy (gi p.l v) = some (decide ((decide ((700 < ((gi p.l v).g.tiles.length : Int)) ∨ (30 < ((gi p.l v).l.length : Int))) = true) ∨ (30 < ((gi p.l v).ts.length : Int)))) := rfl
      rw [if_neg h6, if_pos ⟨h0, hlt⟩, hv, bsome, bsome]
      refine Ok.ite (fun _ => Ok.ret rfl) (fun hh => Ok.gd (by unfold I64; omega) (Ok.ret ⟨⟨by omega, by omega, by omega, fun u u0 u1 => ?_⟩, by omega⟩))
      by_cases hu : u = v
      · subst hu; simp at hh; unfold Small; omega
      · exact hq u u0 (by omega)
  · rintro (_ | r) hx
    · refine Ok.ret ?_
      by_cases h : 60 < (p.order.length : Int)
      · exact .inl (decide_eq_true h)
      · exact .inr ⟨hx.1, by omega, hx.2⟩
    · exact Ok.ret (.inl hx)
theorem wakes18_p : thronglaw18_wakes = some true := by decide +kernel
theorem num18_p (e : Int) : thronglaw18_num e = some e := rfl
theorem room15_p (n : Int) : throngref15_Room n = some (decide ((1 ≤ n) ∧ (n ≤ 4096))) := rfl
end Go.Proofs.YthdbofgcckjopaaGreat
