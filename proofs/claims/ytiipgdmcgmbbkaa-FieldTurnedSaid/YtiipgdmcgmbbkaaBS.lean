
/-
  Buildings, continued: which tiles they cover, and how many. The conditions stand in each lemma.
-/
import Derived.Test.YtiipgdmcgmbbkaaBR
set_option linter.unusedVariables false
set_option linter.unusedSimpArgs false
namespace Go.Proofs.Ytiipgdmcgmbbkaa
open Go.Vg
/-- How many tiles the first so many have together. -/
def ar (l : List Bld) (i : Int) : Int := ((l.take i.toNat).map fun b => b.w * b.h).sum
theorem ar_zero (l : List Bld) : ar l 0 = 0 := by simp [ar]
theorem ar_step {l : List Bld} {i : Int} (h : 0 ≤ i ∧ i < l.length) : ar l (i + 1) = ar l i + (gi l i).w * (gi l i).h := by
  unfold ar
  rw [take_nextV h, List.map_append, List.sum_append]
  simp
theorem count_si {c : List Bool} {i : Int} (h : 0 ≤ i ∧ i < c.length) (hf : ¬ gi c i = true) : ((si c i true).count true : Int) = c.count true + 1 := by
  unfold si
  have hl : i.toNat < c.length := by omega
  rw [List.count_set hl]
  have : c[i.toNat] = false := by
    have e := gi_get h
    rw [List.getElem?_eq_getElem hl] at e
    have e2 := Option.some.inj e
    cases hc : gi c i with
    | true => exact absurd hc hf
    | false => rw [← hc]; exact e2
  rw [this]
  simp
def CovR (g : Grd) (l : List Bld) (c : List Bool) : Prop := c.length = g.tiles.length ∧ ∀ t : Int, 0 ≤ t → t < g.tiles.length → (gi c t = true ↔ ∃ i : Int, 0 ≤ i ∧ i < l.length ∧ In g (gi l i) t)
theorem CovR.uniq {g : Grd} {l : List Bld} {c d : List Bool} (h : CovR g l c) (k : CovR g l d) : c = d := by
  refine ext_gi (h.1.trans k.1.symm) fun i i0 i1 => ?_
  have h1 := h.2 i i0 (by have := h.1; omega)
  have h2 := k.2 i i0 (by have := h.1; omega)
  cases hc : gi c i <;> cases hd : gi d i <;> first | rfl | (rw [hc] at h1; rw [hd] at h2; simp at h1 h2; exact absurd h2 (by simpa using h1)) | (exfalso; rw [hc] at h1; rw [hd] at h2; have := h1.trans h2.symm; simp at this)
theorem cover_b {g : Grd} {l : List Bld} (hg : GOk g) (hm : MOk g l) : Ok (build_Cover g l) fun c => CovR g l c ∧ (c.count true : Int) = ar l l.length := by
  have ha := hg.area
  have hgl := hg.2.2.1
  have hlen := hm.len
  unfold build_Cover
  rw [if_pos (by omega)]
  refine Ok.bind (R := fun c => CovR g l c ∧ (c.count true : Int) = ar l l.length) (Ok.loop (fun z : Int × List Bool => (0 ≤ z.1 ∧ z.1 ≤ l.length) ∧ z.2.length = g.tiles.length ∧ (∀ t : Int, 0 ≤ t → t < g.tiles.length → (gi z.2 t = true ↔ ∃ i : Int, 0 ≤ i ∧ i < z.1 ∧ In g (gi l i) t)) ∧ (z.2.count true : Int) = ar l z.1) (fun z => (l.length - z.1).toNat)
    ⟨by simp, by simp, fun t t0 t1 => ?_, ?_⟩ (by unfold FUEL; simp; omega) ?_) (fun c hc => Ok.ret hc)
  · show gi (List.replicate (g.tiles.length : Int).toNat false) t = true ↔ ∃ i : Int, 0 ≤ i ∧ i < 0 ∧ _
    rw [gi_replicate ⟨t0, by omega⟩]
    exact ⟨fun e => (by cases e), fun ⟨i, i0, i1, _⟩ => (by omega)⟩
  · show ((List.replicate (g.tiles.length : Int).toNat false).count true : Int) = ar l 0
    rw [ar_zero, List.count_replicate]; simp
  · rintro ⟨v, c⟩ ⟨⟨v0, v1⟩, hl, hc, hn⟩
    dsimp only at v0 v1 hl hc hn ⊢
    refine Ok.ite (fun hlt => ?_) (fun hlt => Ok.ret ?_)
    · refine Ok.gd ⟨v0, hlt⟩ ?_
      have hv := hm.each v v0 hlt
      refine Ok.bind (tiles_b hg hv.1 hv.2.1) fun ts hts => ?_
      have htl := hts.len
      have hwh := mul_bd (a := (gi l v).w) (b := (gi l v).h) (A := 4) (B := 4) (by have := hv.1.2.2.1; omega) (by have := hv.1.2.2.2; omega)
      refine Ok.bind (R := fun c' => c'.length = g.tiles.length ∧ (∀ t : Int, 0 ≤ t → t < g.tiles.length → (gi c' t = true ↔ (gi c t = true ∨ t ∈ ts))) ∧ (c'.count true : Int) = c.count true + ts.length)
        (Ok.loop (fun z : Int × List Bool => (0 ≤ z.1 ∧ z.1 ≤ ts.length) ∧ z.2.length = g.tiles.length ∧ (∀ t : Int, 0 ≤ t → t < g.tiles.length → (gi z.2 t = true ↔ (gi c t = true ∨ ∃ k : Int, 0 ≤ k ∧ k < z.1 ∧ gi ts k = t))) ∧ (z.2.count true : Int) = c.count true + z.1) (fun z => (ts.length - z.1).toNat)
        ⟨by simp, hl, fun t t0 t1 => ⟨fun h => .inl h, fun h => h.elim id fun ⟨k, k0, k1, _⟩ => (by have : k < 0 := k1; omega)⟩, by simp⟩ (by unfold FUEL; simp; omega) ?_) ?_
      · rintro ⟨k, c2⟩ ⟨⟨k0, k1⟩, hl2, hc2, hn2⟩
        dsimp only at k0 k1 hl2 hc2 hn2 ⊢
        refine Ok.ite (fun hk => ?_) (fun hk => Ok.ret ?_)
        · have hmem : gi ts k ∈ ts := gi_mem ⟨k0, hk⟩
          have hin := (hts.mem _).1 hmem
          have hb := In.bd hg hv.1 hv.2.1 hin
          have hfree : ¬ gi c2 (gi ts k) = true := fun h => by
            rcases (hc2 _ hb.1 (by omega)).1 h with h | ⟨j, j0, j1, e⟩
            · obtain ⟨i, i0, i1, h⟩ := (hc _ hb.1 (by omega)).1 h
              have hi := hm.each i i0 (by omega)
              exact hm.apart v i i0 i1 hlt ((Meet.share hg hv.1 hi.1 hv.2.1 hi.2.1).2 ⟨_, hin, h⟩)
            · obtain ⟨q1, e1⟩ := List.getElem_of_getElem? (gi_get (xs := ts) (j := j) ⟨j0, by omega⟩)
              obtain ⟨q2, e2⟩ := List.getElem_of_getElem? (gi_get (xs := ts) (j := k) ⟨k0, hk⟩)
              have := (List.getElem_inj hts.nd).1 (e1.trans (e.trans e2.symm))
              omega
          refine Ok.gd ⟨k0, hk⟩ (Ok.gd (by omega) (Ok.gd (by unfold I64; omega) (Ok.ret ⟨⟨by show 0 ≤ k + 1 ∧ k + 1 ≤ _; omega, by show (si c2 _ _).length = _; rw [len_si]; exact hl2, fun t t0 t1 => ?_, ?_⟩, by show ((ts.length : Int) - (k + 1)).toNat < _; omega⟩)))
          · show gi (si c2 (gi ts k) true) t = true ↔ _ ∨ ∃ j : Int, 0 ≤ j ∧ j < k + 1 ∧ _
            by_cases htk : gi ts k = t
            · subst htk
              rw [gi_si_self ⟨hb.1, by omega⟩]
              exact ⟨fun _ => .inr ⟨k, k0, by omega, rfl⟩, fun _ => rfl⟩
            · rw [gi_si_ne hb.1 t0 htk, hc2 t t0 t1]
              constructor
              · rintro (h | ⟨j, j0, j1, e⟩)
                · exact .inl h
                · exact .inr ⟨j, j0, by omega, e⟩
              · rintro (h | ⟨j, j0, j1, e⟩)
                · exact .inl h
                · refine .inr ⟨j, j0, ?_, e⟩
                  have : j ≠ k := fun h => htk (h ▸ e)
                  omega
          · show ((si c2 (gi ts k) true).count true : Int) = _ + (k + 1)
            rw [count_si ⟨hb.1, by omega⟩ hfree]; omega
        · refine ⟨hl2, fun t t0 t1 => ?_, by omega⟩
          rw [hc2 t t0 t1]
          constructor
          · rintro (h | ⟨j, j0, j1, e⟩)
            · exact .inl h
            · exact .inr (e ▸ gi_mem ⟨j0, by omega⟩)
          · rintro (h | h)
            · exact .inl h
            · obtain ⟨j, j0, j1, e⟩ := gi_mem2.1 h
              exact .inr ⟨j, j0, by omega, e⟩
      · rintro c' ⟨e1, e2, e3⟩
        refine Ok.gd (by unfold I64; omega) (Ok.ret ⟨⟨by show 0 ≤ v + 1 ∧ v + 1 ≤ _; omega, e1, fun t t0 t1 => ?_, ?_⟩, by show ((l.length : Int) - (v + 1)).toNat < _; omega⟩)
        · show gi c' t = true ↔ ∃ i : Int, 0 ≤ i ∧ i < v + 1 ∧ _
          rw [e2 t t0 t1, hc t t0 t1, hts.mem]
          constructor
          · rintro (⟨i, i0, i1, h⟩ | h)
            · exact ⟨i, i0, by omega, h⟩
            · exact ⟨v, v0, by omega, h⟩
          · rintro ⟨i, i0, i1, h⟩
            by_cases hi : i = v
            · subst hi; exact .inr h
            · exact .inl ⟨i, i0, by omega, h⟩
        · show (c'.count true : Int) = ar l (v + 1)
          rw [ar_step ⟨v0, hlt⟩, e3, hn, htl]
    · have hvl : v = l.length := by omega
      subst hvl
      exact ⟨⟨hl, hc⟩, hn⟩
end Go.Proofs.Ytiipgdmcgmbbkaa
