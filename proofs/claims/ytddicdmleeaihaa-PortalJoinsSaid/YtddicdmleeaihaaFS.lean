/-
  The plain side of sector's flood: what holds while a sector's parts are reckoned. No program in sight; the conditions stand in each lemma.
-/
import Derived.Test.YtddicdmleeaihaaNM
set_option linter.unusedVariables false
namespace Go.Proofs.Ytddicdmleeaihaa
namespace Sp
open Ff Go.Vg
/-- Free, beside one another, of one sector. -/
def Adj (W H : Int) (fr : List Bool) (t u : Int) : Prop := (0 ≤ t ∧ t < W * H) ∧ gi fr t = true ∧ gi fr u = true ∧ atS W u = atS W t ∧ nbr W H t u
theorem Adj.symm {W H : Int} {fr : List Bool} (hW : 1 ≤ W) (t u : Int) (h : Adj W H fr t u) : Adj W H fr u t :=
  ⟨nbr_in hW h.1 h.2.2.2.2, h.2.2.1, h.2.1, h.2.2.2.1.symm, nbr_symm hW h.1 h.2.2.2.2⟩
/-- What is reached is of the same sector. -/
theorem Rch.in {W H : Int} {fr : List Bool} (hW : 1 ≤ W) {t u : Int} (h : Rch (Adj W H fr) t u) (ht : (0 ≤ t ∧ t < W * H) ∧ gi fr t = true) : (0 ≤ u ∧ u < W * H) ∧ gi fr u = true ∧ atS W u = atS W t := by
  induction h with
  | refl => exact ⟨ht.1, ht.2, rfl⟩
  | step _ hs ih => exact ⟨nbr_in hW hs.1 hs.2.2.2.2, hs.2.2.1, hs.2.2.2.1.trans ih.2.2⟩
/-- One tile's part. -/
def Part (W H : Int) (fr : List Bool) (t m : Int) : Prop := (gi fr t = true → Lab (Adj W H fr) t m) ∧ (gi fr t = false → m = -1)
theorem Part.uniq {W H : Int} {fr : List Bool} {t m n : Int} (h : Part W H fr t m) (k : Part W H fr t n) : m = n := by
  cases hf : gi fr t with
  | true => exact (h.1 hf).uniq (k.1 hf)
  | false => rw [h.2 hf, k.2 hf]
/-- The parts of a map. -/
def PartsOk (W H : Int) (fr : List Bool) (p : List Int) : Prop := (p.length : Int) = W * H ∧ ∀ t, 0 ≤ t → t < W * H → Part W H fr t (gi p t)
theorem PartsOk.uniq {W H : Int} {fr : List Bool} {p q : List Int} (h : PartsOk W H fr p) (k : PartsOk W H fr q) : p = q :=
  ext_gi (by have := h.1; have := k.1; omega) fun i h0 h1 => (h.2 i h0 (by rw [← h.1]; exact h1)).uniq (k.2 i h0 (by rw [← h.1]; exact h1))

section
variable {W H s : Int} {fr : List Bool} {l : List Int} {pin p0 p : List Int} {t : Int}
/-- Ahead of the k-th tile. -/
def OI (W H s : Int) (fr : List Bool) (l pin p : List Int) (k : Int) : Prop :=
  (p.length : Int) = W * H ∧ (∀ v, 0 ≤ v → v < W * H → atS W v ≠ s → gi p v = gi pin v) ∧
  (∀ v, 0 ≤ v → v < W * H → atS W v = s → gi p v = -1 ∨ 0 ≤ gi p v ∧ gi fr v = true ∧ Lab (Adj W H fr) v (gi p v)) ∧
  (∀ v u, atS W v = s → 0 ≤ gi p v → Adj W H fr v u → 0 ≤ gi p u) ∧
  (∀ j : Int, 0 ≤ j → j < k → j < l.length → gi fr (gi l j) = true → 0 ≤ gi p (gi l j))
/-- While the part of t is flooded. -/
def FI (W H : Int) (fr : List Bool) (p0 : List Int) (t : Int) (p todo : List Int) : Prop :=
  (p.length : Int) = W * H ∧ gi p t = t ∧
  (∀ v, 0 ≤ v → v < W * H → gi p v = gi p0 v ∨ gi p0 v = -1 ∧ gi p v = t ∧ Rch (Adj W H fr) t v) ∧
  (∀ v ∈ todo, (0 ≤ v ∧ v < W * H) ∧ gi p v = t ∧ Rch (Adj W H fr) t v) ∧
  (∀ v, 0 ≤ v → v < W * H → gi p0 v = -1 → gi p v = t → v ∈ todo ∨ ∀ u, Adj W H fr v u → 0 ≤ gi p u)
/-- While the neighbours of u are looked at. -/
def GI (W H : Int) (fr : List Bool) (p0 : List Int) (t u k : Int) (p todo : List Int) : Prop :=
  ((0 ≤ u ∧ u < W * H) ∧ Rch (Adj W H fr) t u) ∧ (p.length : Int) = W * H ∧ gi p t = t ∧
  (∀ v, 0 ≤ v → v < W * H → gi p v = gi p0 v ∨ gi p0 v = -1 ∧ gi p v = t ∧ Rch (Adj W H fr) t v) ∧
  (∀ v ∈ todo, (0 ≤ v ∧ v < W * H) ∧ gi p v = t ∧ Rch (Adj W H fr) t v) ∧
  (∀ v, 0 ≤ v → v < W * H → gi p0 v = -1 → gi p v = t → v ∈ todo ∨ (v = u ∧ ∀ j : Int, 0 ≤ j → j < k → Adj W H fr u (nb W H u j) → 0 ≤ gi p (nb W H u j)) ∨ ∀ w, Adj W H fr v w → 0 ≤ gi p w)

theorem FI.start (hp : (p.length : Int) = W * H) (ht : 0 ≤ t ∧ t < W * H) (h1 : gi p t = -1) : FI W H fr p t (si p t t) [t] := by
  have hin : 0 ≤ t ∧ t < p.length := by omega
  refine ⟨by rw [len_si]; exact hp, gi_si_self hin, fun v h0 hv => ?_, fun v hv => ?_, fun v h0 hv hm he => ?_⟩
  · by_cases hvt : t = v
    · subst hvt; right; exact ⟨h1, gi_si_self hin, .refl _⟩
    · left; exact gi_si_ne ht.1 h0 hvt
  · rw [List.mem_singleton] at hv; subst hv; exact ⟨ht, gi_si_self hin, .refl _⟩
  · by_cases hvt : t = v
    · subst hvt; left; exact List.mem_singleton.2 rfl
    · rw [gi_si_ne ht.1 h0 hvt, hm] at he
      omega
theorem FI.pop {todo : List Int} {u : Int} (h : FI W H fr p0 t p (todo ++ [u])) : GI W H fr p0 t u 0 p todo := by
  obtain ⟨h1, h2, h3, h4, h5⟩ := h
  obtain ⟨a, b, c⟩ := h4 u (by simp)
  refine ⟨⟨a, c⟩, h1, h2, h3, fun v hv => h4 v (by simp [hv]), fun v h0 hv hm he => ?_⟩
  rcases h5 v h0 hv hm he with h | h
  · rw [List.mem_append, List.mem_singleton] at h
    rcases h with h | h
    · exact .inl h
    · exact .inr (.inl ⟨h, fun j h0 h1 => by omega⟩)
  · exact .inr (.inr h)
theorem GI.skip {todo : List Int} {u k : Int} (h : GI W H fr p0 t u k p todo) (hc : Adj W H fr u (nb W H u k) → 0 ≤ gi p (nb W H u k)) : GI W H fr p0 t u (k + 1) p todo := by
  obtain ⟨h0, h1, h2, h3, h4, h5⟩ := h
  refine ⟨h0, h1, h2, h3, h4, fun v a b hm he => ?_⟩
  rcases h5 v a b hm he with h | ⟨h, h'⟩ | h
  · exact .inl h
  · refine .inr (.inl ⟨h, fun j j0 j1 => ?_⟩)
    by_cases hj : j = k
    · subst hj; exact hc
    · exact h' j j0 (by omega)
  · exact .inr (.inr h)
theorem GI.push {todo : List Int} {u k : Int} (hW : 1 ≤ W) (ht : 0 ≤ t) (h : GI W H fr p0 t u k p todo) (hr : 0 ≤ nb W H u k ∧ nb W H u k < W * H) (ha : Adj W H fr u (nb W H u k)) (hn : gi p (nb W H u k) < 0) (hp0 : gi p0 (nb W H u k) < 0 → gi p0 (nb W H u k) = -1) :
    GI W H fr p0 t u (k + 1) (si p (nb W H u k) t) (todo ++ [nb W H u k]) := by
  obtain ⟨h0, h1, h2, h3, h4, h5⟩ := h
  obtain ⟨x, hx⟩ : ∃ x, x = nb W H u k := ⟨_, rfl⟩
  rw [← hx] at hr ha hn hp0 ⊢
  have hin : 0 ≤ x ∧ x < p.length := by omega
  have hmono : ∀ v, 0 ≤ v → 0 ≤ gi p v → 0 ≤ gi (si p x t) v := fun v hv h => by
    by_cases e : x = v
    · subst e; rw [gi_si_self hin]; exact ht
    · rw [gi_si_ne hr.1 hv e]; exact h
  have hxr : Rch (Adj W H fr) t x := .step h0.2 ha
  have hp0x : gi p0 x = -1 := by
    rcases h3 x hr.1 hr.2 with h | ⟨h, _⟩
    · exact hp0 (by omega)
    · exact h
  refine ⟨h0, by rw [len_si]; exact h1, ?_, fun v v0 v1 => ?_, fun v hv => ?_, fun v v0 v1 hm he => ?_⟩
  · by_cases e : x = t
    · subst e; exact gi_si_self hin
    · rw [gi_si_ne hr.1 ht e]; exact h2
  · by_cases e : x = v
    · subst e; exact .inr ⟨hp0x, gi_si_self hin, hxr⟩
    · rw [gi_si_ne hr.1 v0 e]; exact h3 v v0 v1
  · rw [List.mem_append, List.mem_singleton] at hv
    by_cases e : x = v
    · subst e; exact ⟨hr, gi_si_self hin, hxr⟩
    · rcases hv with hv | hv
      · obtain ⟨a, b, c⟩ := h4 v hv
        exact ⟨a, by rw [gi_si_ne hr.1 a.1 e]; exact b, c⟩
      · exact absurd hv.symm e
  · by_cases e : x = v
    · subst e; exact .inl (by simp)
    · rw [gi_si_ne hr.1 v0 e] at he
      rcases h5 v v0 v1 hm he with h | ⟨h, h'⟩ | h
      · exact .inl (by simp [h])
      · refine .inr (.inl ⟨h, fun j j0 j1 hj => ?_⟩)
        have hjn : 0 ≤ nb W H u j := (nbr_in hW hj.1 hj.2.2.2.2).1
        by_cases ej : j = k
        · subst ej; rw [← hx, gi_si_self hin]; exact ht
        · exact hmono _ hjn (h' j j0 (by omega) hj)
      · exact .inr (.inr fun w hw => hmono w (nbr_in hW hw.1 hw.2.2.2.2).1 (h w hw))
theorem GI.next {todo : List Int} {u : Int} (hW : 1 ≤ W) (h : GI W H fr p0 t u 4 p todo) : FI W H fr p0 t p todo := by
  obtain ⟨h0, h1, h2, h3, h4, h5⟩ := h
  refine ⟨h1, h2, h3, h4, fun v a b hm he => ?_⟩
  rcases h5 v a b hm he with h | ⟨rfl, h'⟩ | h
  · exact .inl h
  · refine .inr fun w hw => ?_
    obtain ⟨j, j0, j1, hj⟩ := nbr_nb hW hw.1 hw.2.2.2.2
    have := h' j j0 j1
    rw [hj] at this
    exact this hw
  · exact .inr h
/-- A number less in the list. -/
theorem count_si {x : Int} (hx : 0 ≤ x ∧ x < p.length) (hn : gi p x < 0) (ht : 0 ≤ t) : (si p x t).countP (· < 0) + 1 = p.countP (· < 0) := by
  have hl : x.toNat < p.length := by omega
  have hg : p[x.toNat] = gi p x := by simp [gi, List.getD, List.getElem?_eq_getElem hl]
  unfold si
  have h1 := List.countP_set (p := fun y : Int => decide (y < 0)) (l := p) (i := x.toNat) (a := t) hl
  rw [hg] at h1
  have h2 : 0 < p.countP (· < 0) := List.countP_pos_iff.2 ⟨gi p x, gi_mem hx, by simpa using hn⟩
  simp only [hn, decide_true, if_true, show ¬ t < 0 by omega, decide_false, Bool.false_eq_true, if_false] at h1
  omega
theorem OI.start (hin : (pin.length : Int) = W * H) (hp : (p.length : Int) = W * H) (h1 : ∀ v, 0 ≤ v → v < W * H → atS W v ≠ s → gi p v = gi pin v) (h2 : ∀ v, 0 ≤ v → v < W * H → atS W v = s → gi p v = -1) : OI W H s fr l pin p 0 :=
  ⟨hp, h1, fun v a b c => .inl (h2 v a b c), fun v u hs hv ha => by have := h2 v ha.1.1 ha.1.2 hs; omega, fun j j0 j1 => by omega⟩
theorem OI.skip {k : Int} (h : OI W H s fr l pin p k) (hc : gi fr (gi l k) = true → 0 ≤ gi p (gi l k)) : OI W H s fr l pin p (k + 1) := by
  obtain ⟨h1, h2, h3, h4, h5⟩ := h
  refine ⟨h1, h2, h3, h4, fun j j0 j1 j2 hf => ?_⟩
  by_cases hj : j = k
  · subst hj; exact hc hf
  · exact h5 j j0 (by omega) j2 hf
/-- The part of the k-th tile has been flooded. -/
theorem OI.flood {k : Int} (hW : 1 ≤ W) (hl : TilesOk W H s l) (hk : 0 ≤ k ∧ k < l.length) (h : OI W H s fr l pin p0 k) (ht : t = gi l k) (hf : gi fr t = true) (hn : gi p0 t = -1) (hfi : FI W H fr p0 t p []) : OI W H s fr l pin p (k + 1) := by
  obtain ⟨h1, h2, h3, h4, h5⟩ := h
  obtain ⟨f1, f2, f3, f4, f5⟩ := hfi
  have htl : t ∈ l := by rw [ht]; exact gi_mem hk
  obtain ⟨t0, t1, ts⟩ := (hl.1 t).1 htl
  have hlab : Lab (Adj W H fr) t t := by
    refine Lab.root (p := fun v => ((0 ≤ v ∧ v < W * H) ∧ atS W v = s) ∧ 0 ≤ gi p0 v) (Adj.symm hW) ?_ ?_ ?_
    · rintro a b ⟨⟨ha, hs⟩, hp⟩ hab
      exact ⟨⟨nbr_in hW hab.1 hab.2.2.2.2, hab.2.2.2.1.trans hs⟩, h4 a b hs hp hab⟩
    · rintro ⟨_, h⟩; omega
    · intro u hu hut
      obtain ⟨ur, uf, us⟩ := Rch.in hW hu ⟨⟨t0, t1⟩, hf⟩
      refine ⟨⟨ur, us.trans ts⟩, ?_⟩
      have hul : u ∈ l := (hl.1 u).2 ⟨ur.1, ur.2, us.trans ts⟩
      obtain ⟨j, hj, hje⟩ := List.getElem_of_mem hul
      have hju : gi l (j : Int) = u := by rw [gi_nat]; simp [List.getD, List.getElem?_eq_getElem hj, hje]
      have hjk : (j : Int) < k := by
        rcases Int.lt_or_le (j : Int) k with h | h
        · exact h
        · exfalso
          have hkt : gi l k = l[k.toNat]'(by omega) := by simp [gi, List.getD, List.getElem?_eq_getElem (show k.toNat < l.length by omega)]
          rcases Int.lt_or_eq_of_le h with h | h
          · have := List.pairwise_iff_getElem.1 hl.2 k.toNat j (by omega) hj (by omega)
            rw [← hkt, hje, ← ht] at this; omega
          · rw [← h, ← ht] at hju; omega
      have := h5 j (by omega) hjk (by omega)
      rw [hju] at this
      exact this uf
  have hmono : ∀ v, 0 ≤ v → v < W * H → 0 ≤ gi p0 v → 0 ≤ gi p v := fun v a b h => by
    rcases f3 v a b with e | ⟨e, _⟩
    · omega
    · omega
  refine ⟨f1, fun v a b hs => ?_, fun v a b hs => ?_, fun v u hs hv ha => ?_, fun j j0 j1 j2 hfj => ?_⟩
  · rcases f3 v a b with e | ⟨_, _, e⟩
    · rw [e]; exact h2 v a b hs
    · obtain ⟨_, _, e'⟩ := Rch.in hW e ⟨⟨t0, t1⟩, hf⟩
      exact absurd (e'.trans ts) hs
  · rcases f3 v a b with e | ⟨_, e, e'⟩
    · rw [e]; exact h3 v a b hs
    · obtain ⟨_, vf, _⟩ := Rch.in hW e' ⟨⟨t0, t1⟩, hf⟩
      rw [e]; exact .inr ⟨t0, vf, hlab.of (Adj.symm hW) e'⟩
  · rcases f3 v ha.1.1 ha.1.2 with e | ⟨e, e', _⟩
    · have hu := nbr_in hW ha.1 ha.2.2.2.2
      exact hmono u hu.1 hu.2 (h4 v u hs (by omega) ha)
    · rcases f5 v ha.1.1 ha.1.2 e e' with h | h
      · simp at h
      · exact h u ha
  · by_cases hj : j = k
    · subst hj; rw [← ht, f2]; exact t0
    · have hjl := (hl.1 _).1 (gi_mem (xs := l) ⟨j0, j2⟩)
      exact hmono _ hjl.1 hjl.2.1 (h5 j j0 (by omega) j2 hfj)
/-- The sector's parts. -/
theorem OI.done {k : Int} (hl : TilesOk W H s l) (hk : (l.length : Int) ≤ k) (h : OI W H s fr l pin p k) :
    (p.length : Int) = W * H ∧ (∀ v, 0 ≤ v → v < W * H → atS W v ≠ s → gi p v = gi pin v) ∧ ∀ v, 0 ≤ v → v < W * H → atS W v = s → Part W H fr v (gi p v) := by
  obtain ⟨h1, h2, h3, h4, h5⟩ := h
  refine ⟨h1, h2, fun v a b hs => ⟨fun hf => ?_, fun hf => ?_⟩⟩
  · have hv : v ∈ l := (hl.1 v).2 ⟨a, b, hs⟩
    obtain ⟨j, hj, hje⟩ := List.getElem_of_mem hv
    have hju : gi l (j : Int) = v := by rw [gi_nat]; simp [List.getD, List.getElem?_eq_getElem hj, hje]
    have := h5 j (by omega) (by omega) (by omega)
    rw [hju] at this
    rcases h3 v a b hs with h | h
    · have := this hf; omega
    · exact h.2.2
  · rcases h3 v a b hs with h | h
    · exact h
    · rw [hf] at h; exact absurd h.2.1 (by simp)
end
end Sp
end Go.Proofs.Ytddicdmleeaihaa
