/-
  FieldSizes, as a pure function, is true. For arguments that are Go's.
-/
import Derived.Test.YtdaopgoaghhbpaaFX
import Derived.Test.YtdaopgoaghhbpaaFT1
import Derived.Test.YtdaopgoaghhbpaaFG6
set_option linter.unusedVariables false
set_option linter.unusedSimpArgs false
namespace Go.Proofs.Ytdaopgoaghhbpaa
open Go.Vg
theorem cnt88_p : sector_Count 8 8 = some (1, 0) := by decide +kernel
theorem form13_z {p : Ask13} (hg : p.g.tiles.length ≤ 9223372036854775806) (hl : p.l.length ≤ 9223372036854775806) : (AOk p.g p.l p.cls p.size ∧ thronglaw13_form p = some 0) ∨ (¬ AOk p.g p.l p.cls p.size ∧ thronglaw13_form p = some 1) := by
  obtain ⟨r, e, h | h⟩ := form13_b (p := p) hg hl
  · rw [h.1] at e; exact .inl ⟨h.2, e⟩
  · rw [h.1] at e; exact .inr ⟨h.2, e⟩
theorem sizes_law {p : Ask13} : thronglaw13_FieldSizes p = some true := by
  unfold thronglaw13_FieldSizes
  rw [heavy13_p, bsome]
  by_cases hh : decide ((decide ((700 < (p.g.tiles.length : Int)) ∨ (30 < (p.l.length : Int))) = true) ∨ (30 < (p.ts.length : Int))) = true
  · rw [hh, if_pos rfl, bsome, if_pos (.inl rfl)]
  have hz : (p.g.tiles.length : Int) ≤ 700 ∧ (p.l.length : Int) ≤ 30 ∧ (p.ts.length : Int) ≤ 30 := by simp at hh; omega
  rw [if_neg hh]
  rcases form13_z (p := p) (by omega) (by omega) with ⟨ha, e⟩ | ⟨hno, e⟩
  · rw [e, bsome, bsome]
    refine Ok.eq (Ok.ite (fun _ => Ok.ret rfl) (fun hs => ?_))
    have hs : ¬ p.size = 0 := fun h => hs (.inr h)
    have hg := ha.1.1
    have har := hg.area
    refine Ok.bind (scanOk (a := 0) (n := min p.ts.length 3) (fun _ => True) (fun _ => False) (by omega) (fun v v0 v1 _ => ?_) (fun v v0 v1 => by rw [if_neg (by omega)])) ?_
    · rw [if_pos (by omega), if_pos (by omega), tile13_p hg, bsome]
      refine Ok.ite (fun _ => Ok.gd (by unfold I64; omega) (Ok.ret ⟨rfl, trivial⟩)) (fun htl => ?_)
      have htl : 0 ≤ gi p.ts v ∧ gi p.ts v < p.g.w * p.g.h := by simpa using htl
      have ha1 : AOk p.g p.l p.cls (p.size - 1) := ⟨ha.1, ha.2.1, by have := ha.2.2; omega⟩
      obtain ⟨r, e1, h0, fr, hfr, hd⟩ := make_b ha htl (by omega) (by omega)
      obtain ⟨r', e2, h0', fr', hfr', hd'⟩ := make_b ha1 htl (by omega) (by omega)
      refine Ok.gd (by omega) ?_
      rw [e1, bsome]
      refine Ok.gd (by have := ha.2.2; unfold I64; omega) (Ok.gd (by omega) ?_)
      rw [e2, bsome, num13_p, bsome, num13_p]
      have hsub := GdF.sub (tl := p.g.tiles) hg hg hfr hfr' (by omega) (fun _ _ _ h => h)
      have hle := MkR.le (tl := p.g.tiles) hg hg htl hd hd' (fun t t0 t1 ht => ⟨hsub t t0 t1 ht, GdF.open hg ha.2.2.1 hfr t t0 t1 ht, Int.le_refl _⟩)
      have hl := hd.len
      have hl' := hd'.len
      refine Ok.bindE (x := false) (by rw [if_neg (by rw [h0]; simp), bsome, h0']; rfl) (Ok.ite (fun h => ?_) (fun _ => ?_))
      · rcases h with h | h
        · cases h
        · exact absurd (by omega) h
      · refine Ok.bind (scanOk (a := 0) (n := r.1.length) (fun _ => True) (fun _ => False) (by omega) (fun t t0 t1 _ => ?_) (fun t t0 t1 => by rw [if_neg (by omega)])) ?_
        · rw [if_pos t1]
          refine Ok.gd ⟨t0, t1⟩ (Ok.gd (fun _ => by omega) (Ok.gd (fun _ _ => by omega) (Ok.gd (fun _ _ => by omega) (Ok.ite (fun h => ?_) (fun _ => Ok.gd (by unfold I64; omega) (Ok.ret ⟨rfl, trivial⟩))))))
          have := hle t ⟨t0, by omega⟩ h.1
          have := h.2
          omega
        · rintro (_ | _) hx
          · dsimp only [Ex.then]
            exact Ok.gd (by unfold I64; omega) (Ok.ret ⟨rfl, trivial⟩)
          · exact hx.elim
    · rintro (_ | _) hx
      · dsimp only [Ex.then]
        rw [cnt88_p, bsome, num13_p, bsome, if_pos ⟨rfl, rfl⟩, wakes13_p]
        exact Ok.ret rfl
      · exact hx.elim
  · rw [e, bsome, bsome, if_pos (.inl rfl)]
end Go.Proofs.Ytdaopgoaghhbpaa
