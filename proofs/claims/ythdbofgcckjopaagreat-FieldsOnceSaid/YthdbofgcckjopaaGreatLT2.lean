/-
  FieldsOnce, as a pure function, is true. For arguments that are Go's.
-/
import Derived.Test.YthdbofgcckjopaaGreatLT0
import Derived.Test.YthdbofgcckjopaaGreatLG2
set_option linter.unusedVariables false
set_option linter.unusedSimpArgs false
set_option maxRecDepth 20000
namespace Go.Proofs.YthdbofgcckjopaaGreat
open Go.Vg
theorem rock_ok {g : Grd} (hg : GOk g) {i : Int} (hi : 0 ≤ i ∧ i < (g.tiles.length : Int)) : GOk ⟨g.w, g.h, si g.tiles i 5⟩ := by
  refine ⟨hg.1, hg.2.1, ?_, fun j j0 j1 => ?_⟩
  · show ((si g.tiles i 5).length : Int) = _
    rw [len_si]; exact hg.2.2.1
  · have j1 : j < ((si g.tiles i 5).length : Int) := j1
    rw [len_si] at j1
    show ((gi (si g.tiles i 5) j).toNat : Int) ≤ 5
    by_cases hj : j = i
    · subst hj; rw [gi_si_self hi]; decide
    · rw [gi_si_ne hi.1 j0 (fun e => hj e.symm)]; exact hg.2.2.2 j j0 j1
theorem once_law {p : Scr18} : thronglaw18_FieldsOnce p = some true := by
  unfold thronglaw18_FieldsOnce
  obtain ⟨b, hb, hq⟩ := heavy18_b p
  rw [hb, bsome]
  refine Ok.eq (Ok.ite (fun _ => Ok.ret rfl) (fun hh => ?_))
  have hbf : ¬ b = true := fun h => hh (.inl h)
  obtain ⟨hz1, hz2, hz3⟩ := hq.resolve_left hbf
  refine Ok.bind (scanOk (a := 0) (n := p.l.length) (fun _ => True) (fun _ => False) (by omega) (fun v v0 v1 _ => ?_) (fun v v0 v1 => by rw [if_neg (by omega)])) ?_
  · have hI : I64 (v + 1) := by unfold I64; omega
    rw [if_pos v1]
    refine Ok.gd ⟨v0, v1⟩ ?_
    rw [withinC_p _ (by decide), bsome]
    have hi : 0 ≤ p.room % 18446744073709551616 % 8 ∧ p.room % 18446744073709551616 % 8 < 8 := ⟨Int.emod_nonneg _ (by decide), Int.emod_lt_of_pos _ (by decide)⟩
    revert hi
    generalize p.room % 18446744073709551616 % 8 = r
    intro hi
    refine Ok.gd (by unfold I64; omega) ?_
    obtain ⟨x0, e0, h0, hm0, hc0⟩ := new_ok (room := 1 + r) (by omega)
    rw [e0, bsome]
    dsimp only
    rw [num18_p, bsome, if_neg (by simp), bsome]
    have em : ∀ x : Fld, fields_Made x = some x.made := fun _ => rfl
    rw [em, bsome, if_neg (by rw [hm0]; simp)]
    have hs := hz3 v v0 v1
    revert hs
    generalize gi p.l v = q
    intro hs
    unfold Small at hs
    obtain ⟨bm, ebm, hbm⟩ := mayFR_b (g := q.g) (l := q.l) (c := q.cls) (s := q.size) (by omega) (by omega)
    rw [ebm, bsome]
    by_cases hbad : ((!bm) = true) ∨ ((q.ts.length : Int) = 0)
    · rw [if_pos hbad, bsome, if_pos rfl]
      exact Ok.gd hI (Ok.ret ⟨rfl, trivial⟩)
    · rw [if_neg hbad]
      have ha : AOk q.g q.l q.cls q.size := hbm.1 (by
        cases bm
        · exact absurd (.inl rfl) hbad
        · rfl)
      have ht : 0 < (q.ts.length : Int) := by
        by_cases h : (q.ts.length : Int) = 0
        · exact absurd (.inr h) hbad
        · omega
      have hgk := ha.1.1
      rw [if_pos ⟨Int.le_refl _, ht⟩, tile13_p hgk, bsome, bsome]
      by_cases hg : 0 ≤ gi q.ts 0 ∧ gi q.ts 0 < q.g.w * q.g.h
      · rw [decide_eq_true hg, if_neg (by simp)]
        have hgl := hgk.2.2.1
        obtain ⟨d, x1, dl, d1, d2, d3, d4, d5, d6⟩ := dirs_ok h0 (by omega) ha hg (by omega)
        obtain ⟨d', x2, dl', d1', d2', d3', d4', d5', _⟩ := dirs_ok d3 (by omega) ha hg (by omega)
        have hdd : d' = d := Option.some.inj (d1'.symm.trans d1)
        subst hdd
        have hm1 : x1.made = 1 := by rw [d6 hc0, hm0]; rfl
        have hm2 : x2.made = 1 := by rw [d5' d4, hm1]
        refine Ok.gd ⟨Int.le_refl _, ht⟩ ?_
        rw [d2, bsome]
        dsimp only
        rw [em, bsome]
        refine Ok.gd ⟨Int.le_refl _, ht⟩ ?_
        rw [d2', bsome]
        dsimp only
        rw [num18_p, bsome, if_neg (fun h => h rfl), bsome, bsome, decide_eq_false (fun h => h rfl), if_neg (by simp), em, bsome, bsome, hm1, hm2, decide_eq_false (fun h => h rfl), if_neg (by simp), eqN13_p (by omega), bsome, bsome, decide_eq_true rfl, if_neg (by simp), copyG13_p (by omega), bsome]
        have hga := hgk.area
        rw [withinC_p _ (by omega), bsome]
        have hi2 : 0 ≤ p.forget % 18446744073709551616 % (q.g.tiles.length : Int) ∧ p.forget % 18446744073709551616 % (q.g.tiles.length : Int) < (q.g.tiles.length : Int) := ⟨Int.emod_nonneg _ (by omega), Int.emod_lt_of_pos _ (by omega)⟩
        revert hi2
        generalize p.forget % 18446744073709551616 % (q.g.tiles.length : Int) = j
        intro hi2
        refine Ok.gd hi2 (Ok.ite (fun hl => ?_) (fun _ => Ok.gd hI (Ok.ret ⟨rfl, trivial⟩)))
        refine Ok.gd ⟨Int.le_refl _, ht⟩ ?_
        have hln : q.l = [] := List.eq_nil_of_length_eq_zero (by omega)
        have ha2 : AOk ⟨q.g.w, q.g.h, si q.g.tiles j 5⟩ [] q.cls q.size := ⟨⟨rock_ok hgk hi2, ⟨by simp, hln ▸ ha.1.2.ris, fun i h0 h1 => absurd h1 (by simp; omega), fun i k h0 h1 h2 => absurd h2 (by simp; omega)⟩⟩, ha.2⟩
        obtain ⟨d'', x3, _, _, e3, _⟩ := dirs_ok d3' (by omega) ha2 hg (by simp)
        rw [e3, bsome]
        dsimp only
        rw [num18_p, bsome, if_neg (fun h => h rfl)]
        exact Ok.gd hI (Ok.ret ⟨rfl, trivial⟩)
      · rw [decide_eq_false hg, if_pos (show (!false) = true from rfl)]
        exact Ok.gd hI (Ok.ret ⟨rfl, trivial⟩)
  · rintro (_ | _) hx
    · dsimp only [Ex.then]
      rw [wakes18_p, bsome]
      exact Ok.ret rfl
    · exact hx.elim
end Go.Proofs.YthdbofgcckjopaaGreat
