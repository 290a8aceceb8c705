/-
  FieldsExact, as a pure function, is true. For arguments that are Go's.
-/
import Derived.Test.YthdbofgcckjopaaGreatLT0
import Derived.Test.YthdbofgcckjopaaGreatLG1
set_option linter.unusedVariables false
set_option linter.unusedSimpArgs false
set_option maxRecDepth 20000
namespace Go.Proofs.YthdbofgcckjopaaGreat
open Go.Vg
theorem exact_law {p : Scr18} : thronglaw18_FieldsExact p = some true := by
  unfold thronglaw18_FieldsExact
  obtain ⟨b, hb, hq⟩ := heavy18_b p
  rw [hb, bsome]
  refine Ok.eq (Ok.ite (fun _ => Ok.ret rfl) (fun hh => ?_))
  obtain ⟨hz1, hz2, hz3⟩ := hq.resolve_left hh
  by_cases hr : 1 ≤ p.room ∧ p.room ≤ 4096
  · obtain ⟨x0, e0, h0, _, _⟩ := new_ok hr
    rw [e0, bsome]
    dsimp only
    rw [room15_p, bsome, num18_p, bsome, decide_eq_true hr, if_neg (by simp), bsome, bsome, if_neg (by simp)]
    refine Ok.ite (fun _ => by rw [wakes18_p, bsome]; exact Ok.ret rfl) (fun hn => ?_)
    have hl0 : 0 < (p.l.length : Int) := by
      by_cases h : (p.l.length : Int) = 0
      · exact absurd (.inr h) hn
      · omega
    rw [bsome]
    refine Ok.bind (R := fun x => match x with | .go _ => True | .up _ => False) (Ok.loop (fun z : Int × Fld => 0 ≤ z.1 ∧ z.1 ≤ 16 ∧ FOk z.1 p.room z.2) (fun z => (16 - z.1).toNat) ⟨Int.le_refl _, (by show (0 : Int) ≤ 16; decide), h0⟩ (by unfold FUEL; simp) ?_) ?_
    · rintro ⟨v, x⟩ ⟨v0, v1, hx⟩
      dsimp only at v0 v1 hx ⊢
      refine Ok.ite (fun hlt => ?_) (fun _ => Ok.ret trivial)
      refine Ok.gd ⟨v0, hlt.1⟩ ?_
      rw [withinC_p _ (by omega), bsome]
      have hi : 0 ≤ gi p.order v % 18446744073709551616 % (p.l.length : Int) ∧ gi p.order v % 18446744073709551616 % (p.l.length : Int) < (p.l.length : Int) := ⟨Int.emod_nonneg _ (by omega), Int.emod_lt_of_pos _ hl0⟩
      revert hi
      generalize gi p.order v % 18446744073709551616 % (p.l.length : Int) = i
      intro hi
      refine Ok.gd hi ?_
      have hs := hz3 i hi.1 hi.2
      revert hs
      generalize gi p.l i = q
      intro hs
      unfold Small at hs
      refine Ok.bind (R := fun _ => True) (Ok.ite (fun ht => ?_) (fun _ => Ok.ret trivial)) fun goal _ => ?_
      · refine Ok.gd ⟨v0, hlt.1⟩ ?_
        rw [withinC_p _ (by omega), bsome]
        exact Ok.gd ⟨Int.emod_nonneg _ (by omega), Int.emod_lt_of_pos _ ht⟩ (Ok.ret trivial)
      -- the state behind Forget
      have hf : ∃ x1, (if v = p.forget then Option.bind (fields_Forget x) fun x71 => some x71 else some x) = some x1 ∧ FOk v p.room x1 := by
        by_cases hv : v = p.forget
        · obtain ⟨x1, e1, h1⟩ := forget_ok hx
          exact ⟨x1, by rw [if_pos hv, e1, bsome], h1⟩
        · exact ⟨x, by rw [if_neg hv], hx⟩
      obtain ⟨x1, ef, hx1⟩ := hf
      have hcp : throngref0_CopyGround q.g = some q.g := copyG13_p (by omega)
      have hgo : ∃ bad want x2, (∃ b1, throngref13_May q.g q.l q.cls q.size = some b1 ∧ (if b1 = true then
            Option.bind (throngref5_Tile q.g goal) fun x73 => if x73 = true then Option.bind (throngref13_Dirs q.g q.l q.cls q.size goal) fun x75 => some ((0 : Int), x75) else some (3, []) else some (1, [])) = some (bad, want)) ∧
          fields_Dirs x1 q.g q.l q.cls q.size goal = some (want, bad, x2) ∧ FOk (v + 1) p.room x2 ∧ want.length < 1000000 := by
        have hst : FOk (v + 1) p.room x1 := by
          obtain ⟨h, m, l, a1, a2, a3, a4, a5⟩ := hx1.c
          have hb := hx1.bd
          exact ⟨⟨h, m, l, a1, a2, by omega, by omega, a5⟩, hx1.ways, hx1.nets, by omega, hx1.sz⟩
        by_cases ha : AOk q.g q.l q.cls q.size
        · have hgk := ha.1.1
          by_cases hg : 0 ≤ goal ∧ goal < q.g.w * q.g.h
          · obtain ⟨d, x2, dl, d1, d2, d3, _⟩ := dirs_ok hx1 (by omega) ha hg (by omega)
            have hgl := hgk.2.2.1
            refine ⟨0, d, x2, ⟨true, (mayFR_b (by omega) (by omega)).t ha, ?_⟩, d2, d3, by omega⟩
            rw [if_pos rfl, tile13_p hgk, bsome, decide_eq_true hg, if_pos rfl, d1, bsome]
          · refine ⟨3, [], x1, ⟨true, (mayFR_b (by omega) (by omega)).t ha, ?_⟩, dirs_none ha hg (by omega), hst, by simp⟩
            rw [if_pos rfl, tile13_p hgk, bsome, decide_eq_false hg, if_neg (by simp)]
        · exact ⟨1, [], x1, ⟨false, (mayFR_b (by omega) (by omega)).f ha, by rw [if_neg (by simp)]⟩, dirs_form ha (by omega) (by omega), hst, by simp⟩
      obtain ⟨bad, want, x2, ⟨b1, e1, e2⟩, e3, hx2, hwl⟩ := hgo
      refine Ok.bindE e1 (Ok.bindE e2 ?_)
      dsimp only
      refine Ok.bindE ef ?_
      rw [hcp, bsome, e3, bsome]
      dsimp only
      rw [num18_p, bsome, if_neg (fun h => h rfl), eqN13_p (by omega), bsome, bsome, decide_eq_true rfl, if_neg (by simp), numbers_p (by omega), bsome]
      exact Ok.gd (by unfold I64; omega) (Ok.ret ⟨⟨by omega, by omega, hx2⟩, by dsimp only; omega⟩)
    · rintro (_ | _) hx
      · dsimp only [Ex.then]
        rw [wakes18_p, bsome]
        exact Ok.ret rfl
      · exact hx.elim
  · rw [new_no hr, bsome]
    dsimp only
    rw [room15_p, bsome, num18_p, bsome, decide_eq_false hr, if_neg (by simp), bsome, bsome, if_neg (by simp), if_pos (.inl rfl), wakes18_p, bsome]
    exact Ok.ret rfl
end Go.Proofs.YthdbofgcckjopaaGreat
