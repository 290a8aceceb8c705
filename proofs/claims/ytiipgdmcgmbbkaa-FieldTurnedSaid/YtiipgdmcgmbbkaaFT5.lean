/-
  FieldTurned, as a pure function, is true: as far there as back, nothing to itself, not farther straight than by way of a third one. For arguments that are Go's.
-/
import Derived.Test.YtiipgdmcgmbbkaaFY
import Derived.Test.YtiipgdmcgmbbkaaFG5
set_option linter.unusedVariables false
set_option linter.unusedSimpArgs false
namespace Go.Proofs.Ytiipgdmcgmbbkaa
open Go.Vg
theorem num13_p (e : Int) : thronglaw13_num e = some e := rfl
theorem wakes13_p : thronglaw13_wakes = some true := by decide +kernel
theorem heavy13_p (p : Ask13) : thronglaw13_Heavy p = some (decide ((decide ((700 < (p.g.tiles.length : Int)) ∨ (30 < (p.l.length : Int))) = true) ∨ (30 < (p.ts.length : Int)))) := rfl
theorem form13_z {p : Ask13} (hg : p.g.tiles.length ≤ 9223372036854775806) (hl : p.l.length ≤ 9223372036854775806) : (AOk p.g p.l p.cls p.size ∧ thronglaw13_form p = some 0) ∨ (¬ AOk p.g p.l p.cls p.size ∧ thronglaw13_form p = some 1) := by
  unfold thronglaw13_form
  by_cases h : AOk p.g p.l p.cls p.size
  · rw [(mayFR_b hg hl).t h, bsome, if_pos rfl]
    exact .inl ⟨h, rfl⟩
  · rw [(mayFR_b hg hl).f h, bsome, if_neg (by simp)]
    exact .inr ⟨h, rfl⟩
section
variable {g : Grd} {c : Int} {fr : List Bool}
theorem far_zero {a : Int} {d : List Int} (ha : 0 ≤ a ∧ a < g.w * g.h) (h : MkR g c a fr d) : gi d a ≤ 0 := by
  rcases h.is with ⟨_, b⟩ | ⟨_, b⟩
  · rw [b.zero]; omega
  · rw [b a ha]; omega
theorem far_tri (hg : GOk g) (hc : 0 ≤ c ∧ c ≤ 2) {a b t : Int} {d e : List Int} (hb : 0 ≤ b ∧ b < g.w * g.h) (ht : 0 ≤ t ∧ t < g.w * g.h) (h : MkR g c a fr d) (k : MkR g c b fr e) (h1 : 0 ≤ gi d b) (h2 : 0 ≤ gi e t) : 0 ≤ gi d t ∧ gi d t ≤ gi d b + gi e t := by
  rcases h.is with ⟨_, p⟩ | ⟨_, p⟩
  · rcases k.is with ⟨_, q⟩ | ⟨_, q⟩
    · have w := q.has t ht h2
      have := p.walk (fun t u k ht he => (Ed.bd hg hc ht he).1) hb h1 w
      exact this.2
    · rw [q t ht] at h2; omega
  · rw [p b hb] at h1; omega
theorem far_le (hg : GOk g) (hc : 0 ≤ c ∧ c ≤ 2) {a b : Int} {d e : List Int} (ha : 0 ≤ a ∧ a < g.w * g.h) (hb : 0 ≤ b ∧ b < g.w * g.h) (h : MkR g c a fr d) (k : MkR g c b fr e) (h1 : 0 ≤ gi d b) : 0 ≤ gi e a ∧ gi e a ≤ gi d b := by
  rcases h.is with ⟨fa, p⟩ | ⟨_, p⟩
  · have w := p.has b hb h1
    have fb := h.free b hb h1
    have w2 := w.rev (fun t => (0 ≤ t ∧ t < g.w * g.h) ∧ gi fr t = true) (fun u v k hu he => by
      have h3 := Ed.bd hg hc hu.1 he
      exact ⟨⟨h3.1, h3.2.1⟩, Ed.symm hg hu.1 hu.2 he⟩) ⟨ha, fa⟩
    rcases k.is with ⟨_, q⟩ | ⟨q, _⟩
    · have h0 : gi e b = 0 := q.zero
      have := q.walk (fun t u k ht he => (Ed.bd hg hc ht he).1) hb (by omega) w2.2
      rw [h0] at this
      exact ⟨this.2.1, by have := this.2.2; omega⟩
    · exact absurd fb q
  · rw [p b hb] at h1; omega
theorem far_symm (hg : GOk g) (hc : 0 ≤ c ∧ c ≤ 2) {a b : Int} {d e : List Int} (ha : 0 ≤ a ∧ a < g.w * g.h) (hb : 0 ≤ b ∧ b < g.w * g.h) (h : MkR g c a fr d) (k : MkR g c b fr e) : gi d b = gi e a := by
  have h1 := (h.bd b hb).1
  have h2 := (k.bd a ha).1
  by_cases h3 : 0 ≤ gi d b
  · have h4 := far_le hg hc ha hb h k h3
    have h5 := far_le hg hc hb ha k h h4.1
    omega
  · by_cases h4 : 0 ≤ gi e a
    · have h5 := far_le hg hc hb ha k h h4
      omega
    · omega
end
theorem turned_law {p : Ask13} : thronglaw13_FieldTurned p = some true := by
  unfold thronglaw13_FieldTurned
  rw [heavy13_p, bsome]
  by_cases hh : decide ((decide ((700 < (p.g.tiles.length : Int)) ∨ (30 < (p.l.length : Int))) = true) ∨ (30 < (p.ts.length : Int))) = true
  · rw [if_pos hh, bsome, if_pos rfl]
  have hz : (p.g.tiles.length : Int) ≤ 700 ∧ (p.l.length : Int) ≤ 30 ∧ (p.ts.length : Int) ≤ 30 := by simp at hh; omega
  rw [if_neg hh]
  rcases form13_z (p := p) (by omega) (by omega) with ⟨ha, e⟩ | ⟨hno, e⟩
  · rw [e, bsome, bsome, if_neg (by simp)]
    have hg := ha.1.1
    have hc := ha.2.1
    have har := hg.area
    have hgl := hg.2.2.1
    obtain ⟨fr, _, hfr⟩ := fit_f ha
    refine Ok.eq (Ok.bind (R := fun x : Ex (List (List Int) × List Int) Bool => match x with | .up _ => False | .go y => y.1.length = y.2.length ∧ y.2.length ≤ 5 ∧ ∀ u : Int, 0 ≤ u → u < y.2.length → (0 ≤ gi y.2 u ∧ gi y.2 u < p.g.w * p.g.h) ∧ MkR p.g p.cls (gi y.2 u) fr (gi y.1 u))
      (Ok.loop (fun z : List (List Int) × List Int × Int => (0 ≤ z.2.2 ∧ z.2.2 ≤ 5) ∧ z.1.length = z.2.1.length ∧ (z.2.1.length : Int) ≤ z.2.2 ∧ ∀ u : Int, 0 ≤ u → u < z.2.1.length → (0 ≤ gi z.2.1 u ∧ gi z.2.1 u < p.g.w * p.g.h) ∧ MkR p.g p.cls (gi z.2.1 u) fr (gi z.1 u)) (fun z => (5 - z.2.2).toNat) ⟨by simp, rfl, by simp, fun u u0 u1 => by simp at u1; omega⟩ (by unfold FUEL; simp) ?_) ?_)
    · rintro ⟨fs, ts, v⟩ ⟨⟨v0, v1⟩, hl, hn, hF⟩
      dsimp only at v0 v1 hl hn hF ⊢
      refine Ok.ite (fun hlt => Ok.gd ⟨v0, hlt.1⟩ ?_) (fun _ => Ok.ret ⟨hl, by show ts.length ≤ 5; omega, hF⟩)
      rw [tile13_p hg, bsome]
      refine Ok.ite (fun _ => Ok.gd (by unfold I64; omega) (Ok.ret ⟨⟨⟨by show 0 ≤ v + 1; omega, by show v + 1 ≤ 5; omega⟩, hl, by show (ts.length : Int) ≤ v + 1; omega, hF⟩, by show (5 - (v + 1)).toNat < (5 - v).toNat; omega⟩)) (fun htl => ?_)
      have htl : 0 ≤ gi p.ts v ∧ gi p.ts v < p.g.w * p.g.h := by simpa using htl
      obtain ⟨r, e1, h0, fr', hfr', hd⟩ := make_b ha htl (by omega) (by omega)
      have := GdF.uniq hg hfr hfr'; subst this
      have hdl := hd.len
      refine Ok.gd ⟨v0, hlt.1⟩ ?_
      rw [e1, bsome, num13_p, bsome]
      refine Ok.ite (fun hc2 => ?_) (fun _ => Ok.gd ⟨v0, hlt.1⟩ (Ok.gd (by omega) (Ok.gd (by omega) (Ok.gd (by unfold I64; omega) (Ok.ret ⟨⟨⟨by show 0 ≤ v + 1; omega, by show v + 1 ≤ 5; omega⟩, by show (fs ++ _).length = (ts ++ _).length; simp [hl], by show ((ts ++ [_]).length : Int) ≤ v + 1; simp; omega, fun u u0 u1 => ?_⟩, by show (5 - (v + 1)).toNat < (5 - v).toNat; omega⟩)))))
      · exfalso
        rcases hc2 with hc2 | hc2
        · exact hc2 h0
        · exact hc2 (by omega)
      · show (0 ≤ gi (ts ++ [gi p.ts v]) u ∧ gi (ts ++ [gi p.ts v]) u < p.g.w * p.g.h) ∧ MkR p.g p.cls (gi (ts ++ [gi p.ts v]) u) fr (gi (fs ++ [r.1]) u)
        have u1 : u < ((ts ++ [gi p.ts v]).length : Int) := u1
        simp only [List.length_append, List.length_cons, List.length_nil] at u1
        by_cases hu : u < ts.length
        · rw [gi_append_left ⟨u0, hu⟩, gi_append_left (xs := fs) ⟨u0, by omega⟩]
          exact hF u u0 hu
        · have hu2 : u = (ts.length : Int) := by omega
          subst hu2
          rw [gi_append_at]
          have h3 : gi (fs ++ [r.1]) (ts.length : Int) = r.1 := by rw [← hl]; exact gi_append_at
          rw [h3]
          exact ⟨htl, hd⟩
    · rintro (⟨fs, ts⟩ | _) hx
      · obtain ⟨hl, hn, hF⟩ := hx
        dsimp only [Ex.then] at hl hn hF ⊢
        have hi : ∀ u v : Int, 0 ≤ u → u < ts.length → 0 ≤ v → v < ts.length → 0 ≤ gi ts v ∧ gi ts v < ((gi fs u).length : Int) := fun u v u0 u1 v0 v1 => by
          have h1 := (hF u u0 u1).2.len
          have h2 := (hF v v0 v1).1
          omega
        refine Ok.bind (scanOk (a := 0) (n := ts.length) (fun _ => True) (fun _ => False) (by omega) (fun i i0 i1 _ => ?_) (fun v v0 v1 => by rw [if_neg (by omega)])) ?_
        · rw [if_pos i1]
          have hi1 := hF i i0 i1
          refine Ok.gd ⟨i0, by omega⟩ (Ok.gd ⟨i0, i1⟩ (Ok.gd (hi i i i0 i1 i0 i1) (Ok.ite (fun hc2 => ?_) (fun _ => ?_))))
          · exfalso
            have := far_zero hi1.1 hi1.2
            omega
          · refine Ok.bind (scanOk (a := 0) (n := ts.length) (fun _ => True) (fun _ => False) (by omega) (fun k k0 k1 _ => ?_) (fun v v0 v1 => by rw [if_neg (by omega)])) ?_
            · rw [if_pos k1]
              have hk1 := hF k k0 k1
              refine Ok.gd ⟨i0, by omega⟩ (Ok.gd ⟨k0, k1⟩ (Ok.gd (hi i k i0 i1 k0 k1) (Ok.gd ⟨k0, by omega⟩ (Ok.gd ⟨i0, i1⟩ (Ok.gd (hi k i k0 k1 i0 i1) (Ok.ite (fun hc2 => ?_) (fun _ => ?_)))))))
              · exact absurd (far_symm hg hc hi1.1 hk1.1 hi1.2 hk1.2) hc2
              · refine Ok.bind (scanOk (a := 0) (n := ts.length) (fun _ => True) (fun _ => False) (by omega) (fun j j0 j1 _ => ?_) (fun v v0 v1 => by rw [if_neg (by omega)])) ?_
                · rw [if_pos j1]
                  have hj1 := hF j j0 j1
                  have b1 := (hi1.2.bd _ hj1.1).2
                  have b2 := (hj1.2.bd _ hk1.1).2
                  have b3 := (hi1.2.bd _ hj1.1).1
                  have b4 := (hj1.2.bd _ hk1.1).1
                  refine Ok.gd ⟨i0, by omega⟩ (Ok.gd ⟨k0, k1⟩ (Ok.gd (hi i k i0 i1 k0 k1) (Ok.gd ⟨i0, by omega⟩ (Ok.gd ⟨j0, j1⟩ (Ok.gd (hi i j i0 i1 j0 j1) (Ok.gd ⟨j0, by omega⟩ (Ok.gd ⟨k0, k1⟩ (Ok.gd (hi j k j0 j1 k0 k1) (Ok.gd (fun _ _ => by unfold I64; omega) (Ok.ite (fun hc2 => ?_) (fun _ => Ok.gd (by unfold I64; omega) (Ok.ret ⟨rfl, trivial⟩))))))))))))
                  exfalso
                  have := far_tri hg hc hj1.1 hk1.1 hi1.2 hj1.2 hc2.1.1 hc2.1.2
                  rcases hc2.2 with h3 | h3 <;> omega
                · rintro (_ | _) hx
                  · dsimp only [Ex.then]
                    exact Ok.gd (by unfold I64; omega) (Ok.ret ⟨rfl, trivial⟩)
                  · exact hx.elim
            · rintro (_ | _) hx
              · dsimp only [Ex.then]
                exact Ok.gd (by unfold I64; omega) (Ok.ret ⟨rfl, trivial⟩)
              · exact hx.elim
        · rintro (_ | _) hx
          · dsimp only [Ex.then]
            rw [wakes13_p, bsome]; exact Ok.ret rfl
          · exact hx.elim
      · exact hx.elim
  · rw [e, bsome, bsome, if_pos (by simp)]
end Go.Proofs.Ytiipgdmcgmbbkaa
