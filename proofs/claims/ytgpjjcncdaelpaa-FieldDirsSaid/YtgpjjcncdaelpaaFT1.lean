/-
  FieldGoods, as a pure function, is true. For arguments that are Go's.
-/
import Derived.Test.YtgpjjcncdaelpaaFS
import Derived.Test.YtgpjjcncdaelpaaFG1
set_option linter.unusedVariables false
set_option linter.unusedSimpArgs false
namespace Go.Proofs.Ytgpjjcncdaelpaa
open Go.Vg
theorem num13_p (e : Int) : thronglaw13_num e = some e := rfl
theorem wakes13_p : thronglaw13_wakes = some true := by decide +kernel
theorem heavy13_p (p : Ask13) : thronglaw13_Heavy p = some (decide ((decide ((700 < (p.g.tiles.length : Int)) ∨ (30 < (p.l.length : Int))) = true) ∨ (30 < (p.ts.length : Int)))) := rfl
theorem form13_b {p : Ask13} (hg : p.g.tiles.length ≤ 9223372036854775806) (hl : p.l.length ≤ 9223372036854775806) : Ok (thronglaw13_form p) fun r => (r = 0 ∧ AOk p.g p.l p.cls p.size) ∨ (r = 1 ∧ ¬ AOk p.g p.l p.cls p.size) := by
  unfold thronglaw13_form
  by_cases h : AOk p.g p.l p.cls p.size
  · rw [(mayFR_b hg hl).t h, bsome, if_pos rfl]
    exact Ok.ret (.inl ⟨rfl, h⟩)
  · rw [(mayFR_b hg hl).f h, bsome, if_neg (by simp)]
    exact Ok.ret (.inr ⟨rfl, h⟩)
theorem goods_law {p : Ask13} : thronglaw13_FieldGoods p = some true := by
  unfold thronglaw13_FieldGoods
  rw [heavy13_p, bsome]
  refine Ok.eq (Ok.ite (fun _ => Ok.ret rfl) (fun hh => ?_))
  have hz : (p.g.tiles.length : Int) ≤ 700 ∧ (p.l.length : Int) ≤ 30 := by simp at hh; omega
  refine Ok.bind (form13_b (p := p) (by omega) (by omega)) ?_
  rintro x4 (⟨rfl, ha⟩ | ⟨rfl, hno⟩)
  · have hg := ha.1.1
    obtain ⟨⟨d, e⟩, hd, hdr⟩ := goodP_b (g := p.g) (l := p.l) (c := p.cls) (s := p.size) (by omega) (by omega)
    rcases hdr with ⟨_, rfl, o, k, ho, hk, hgd⟩ | ⟨hno, _⟩
    · obtain ⟨w, hw, hwr⟩ := goodR_b hg ha.1.2 ha.2.1 ho hk p.size
      rw [if_pos rfl, hw, bsome, bsome, hd, bsome]
      have := hgd.uniq hwr
      dsimp only at this ⊢
      subst this
      have hl := hgd.1
      have har := hg.area
      rw [num13_p, bsome]
      refine Ok.bindE (x := false) (by rw [if_neg (by simp), eqB_p (by dsimp only at hl; omega), bsome]; simp) ?_
      rw [if_neg (by simp), bools_p (by dsimp only at hl; omega), bsome, wakes13_p]
      exact Ok.ret rfl
    · exact absurd ha hno
  · obtain ⟨⟨d, e⟩, hd, hdr⟩ := goodP_b (g := p.g) (l := p.l) (c := p.cls) (s := p.size) (by omega) (by omega)
    rcases hdr with ⟨h, _⟩ | ⟨_, h⟩
    · exact absurd h hno
    · cases h
      rw [if_neg (by omega), bsome, hd, bsome]
      dsimp only
      rw [num13_p, bsome]
      refine Ok.bindE (x := false) (by rw [if_neg (by simp), eqB_p (by simp), bsome]; simp) ?_
      rw [if_neg (by simp), bools_p (by simp), bsome, wakes13_p]
      exact Ok.ret rfl
end Go.Proofs.Ytgpjjcncdaelpaa
