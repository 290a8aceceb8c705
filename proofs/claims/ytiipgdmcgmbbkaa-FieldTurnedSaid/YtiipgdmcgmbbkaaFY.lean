
/-
  Steps, told by where tiles lie; back and forth; walks. The conditions stand in each lemma.
-/
import Derived.Test.YtiipgdmcgmbbkaaFX
set_option linter.unusedVariables false
set_option linter.unusedSimpArgs false
namespace Go.Proofs.Ytiipgdmcgmbbkaa
open Go.Vg
/-- Free, told by where it lies. -/
def FO (g : Grd) (fr : List Bool) (x y : Int) : Prop := On g x y ∧ gi fr (x + g.w * y) = true
theorem nb_on {g : Grd} (hg : GOk g) {fr : List Bool} {t i : Int} : Fr fr (nb g t i) ↔ FO g fr (t % g.w + DX i) (t / g.w + DY i) := by
  unfold Fr FO nb
  by_cases h : On g (t % g.w + DX i) (t / g.w + DY i)
  · rw [if_pos h]; exact ⟨fun e => ⟨h, e.2⟩, fun e => ⟨(h.bd hg).1.1, e.2⟩⟩
  · rw [if_neg h]; exact ⟨fun e => by omega, fun e => absurd e.1 h⟩
theorem nb_at {g : Grd} {t i : Int} (h : On g (t % g.w + DX i) (t / g.w + DY i)) : nb g t i = t % g.w + DX i + g.w * (t / g.w + DY i) := by unfold nb; rw [if_pos h]
theorem way_lt {i : Int} (h : 0 ≤ i ∧ i < 8) : (i < 4 ↔ DX i = 0 ∨ DY i = 0) := by
  obtain ⟨a, ha⟩ : ∃ a : Fin 8, ((a.val : Nat) : Int) = i := ⟨⟨i.toNat, by omega⟩, by simp; omega⟩
  subst ha
  revert a
  decide +kernel
theorem way_sd {i : Int} (h : 0 ≤ i ∧ i < 8) (h4 : ¬ i < 4) : (DX (Sd1 i) = DX i ∧ DY (Sd1 i) = 0 ∧ DX (Sd2 i) = 0 ∧ DY (Sd2 i) = DY i) ∨ (DX (Sd2 i) = DX i ∧ DY (Sd2 i) = 0 ∧ DX (Sd1 i) = 0 ∧ DY (Sd1 i) = DY i) := by
  obtain ⟨a, ha⟩ : ∃ a : Fin 8, ((a.val : Nat) : Int) = i := ⟨⟨i.toNat, by omega⟩, by simp; omega⟩
  subst ha
  revert a
  decide +kernel
/-- A step from (x, y) by (a, b). -/
structure SE (g : Grd) (c : Int) (fr : List Bool) (x y a b k : Int) : Prop where
  a1 : -1 ≤ a ∧ a ≤ 1
  b1 : -1 ≤ b ∧ b ≤ 1
  ne : ¬ (a = 0 ∧ b = 0)
  to : FO g fr (x + a) (y + b)
  cost : k = (if a = 0 ∨ b = 0 then 5 else 7) * (tc g c (x + g.w * y) + tc g c (x + a + g.w * (y + b)))
  sd : (a = 0 ∨ b = 0) ∨ (FO g fr (x + a) y ∧ FO g fr x (y + b))
  pos : 0 < k
theorem stp_at {g : Grd} {c : Int} {fr : List Bool} (hg : GOk g) {t i : Int} (ht : 0 ≤ t ∧ t < g.w * g.h) (hi : 0 ≤ i ∧ i < 8) (h : 0 < stp g c fr t i) : SE g c fr (t % g.w) (t / g.w) (DX i) (DY i) (stp g c fr t i) := by
  have hd := dd_bd hi
  have hu := stp_fr h
  have ho := (nb_on hg).1 hu
  have he := (On.of hg ht).2
  have hn := nb_at ho.1
  have hw := way_lt hi
  refine ⟨hd.1, hd.2.1, hd.2.2, ho, ?_, ?_, h⟩
  · unfold stp at h ⊢
    rw [if_pos hu] at h ⊢
    rw [he, ← hn]
    by_cases h4 : i < 4
    · rw [if_pos h4, if_pos (hw.1 h4)]
    · rw [if_neg h4] at h ⊢
      rw [if_neg (fun e => h4 (hw.2 e))]
      split
      · rfl
      · rename_i h5; rw [if_neg h5] at h; omega
  · by_cases h4 : i < 4
    · exact .inl (hw.1 h4)
    · unfold stp at h
      rw [if_pos hu, if_neg h4] at h
      split at h
      · rename_i h5
        have h1 := (nb_on hg).1 h5.1
        have h2 := (nb_on hg).1 h5.2
        rcases way_sd hi h4 with ⟨e1, e2, e3, e4⟩ | ⟨e1, e2, e3, e4⟩
        · rw [e1, e2] at h1; rw [e3, e4] at h2
          rw [Int.add_zero] at h1 h2
          exact .inr ⟨h1, h2⟩
        · rw [e1, e2] at h2; rw [e3, e4] at h1
          rw [Int.add_zero] at h1 h2
          exact .inr ⟨h2, h1⟩
      · omega
theorem SE.way {g : Grd} {c : Int} {fr : List Bool} (hg : GOk g) {t a b k : Int} (ht : 0 ≤ t ∧ t < g.w * g.h) (h : SE g c fr (t % g.w) (t / g.w) a b k) : ∃ i, (0 ≤ i ∧ i < 8) ∧ DX i = a ∧ DY i = b ∧ nb g t i = t % g.w + a + g.w * (t / g.w + b) ∧ stp g c fr t i = k := by
  obtain ⟨i, hi, rfl, rfl⟩ := dd_of h.a1 h.b1 h.ne
  have hn := nb_at h.to.1
  have hu := (nb_on hg).2 h.to
  have he := (On.of hg ht).2
  have hw := way_lt hi
  refine ⟨i, hi, rfl, rfl, hn, ?_⟩
  have hk := h.cost
  rw [he, ← hn] at hk
  unfold stp
  rw [if_pos hu]
  by_cases h4 : i < 4
  · rw [if_pos h4, hk, if_pos (hw.1 h4)]
  · rw [if_neg h4]
    rw [if_neg (fun e => h4 (hw.2 e))] at hk
    rcases h.sd with hs | hs
    · exact absurd (hw.2 hs) h4
    · have : Fr fr (nb g t (Sd1 i)) ∧ Fr fr (nb g t (Sd2 i)) := by
        rw [nb_on hg, nb_on hg]
        rcases way_sd hi h4 with ⟨e1, e2, e3, e4⟩ | ⟨e1, e2, e3, e4⟩
        · rw [e1, e2, e3, e4, Int.add_zero, Int.add_zero]; exact hs
        · rw [e1, e2, e3, e4, Int.add_zero, Int.add_zero]; exact ⟨hs.2, hs.1⟩
      rw [if_pos this, hk]
theorem Ed.iff {g : Grd} {c : Int} {fr : List Bool} (hg : GOk g) {t u k : Int} (ht : 0 ≤ t ∧ t < g.w * g.h) : Ed g c fr t u k ↔ ∃ a b, u = t % g.w + a + g.w * (t / g.w + b) ∧ SE g c fr (t % g.w) (t / g.w) a b k := by
  constructor
  · rintro ⟨i, hi, rfl, rfl, hk⟩
    have h := stp_at hg ht hi hk
    exact ⟨DX i, DY i, nb_at h.to.1, h⟩
  · rintro ⟨a, b, rfl, h⟩
    obtain ⟨i, hi, _, _, hn, hs⟩ := h.way hg ht
    exact ⟨i, hi, hn, hs, h.pos⟩
theorem SE.symm {g : Grd} {c : Int} {fr : List Bool} {x y a b k : Int} (hf : FO g fr x y) (h : SE g c fr x y a b k) : SE g c fr (x + a) (y + b) (-a) (-b) k := by
  have e1 : x + a + -a = x := by omega
  have e2 : y + b + -b = y := by omega
  refine ⟨by have := h.a1; omega, by have := h.b1; omega, by have := h.ne; omega, by rw [e1, e2]; exact hf, ?_, ?_, h.pos⟩
  · rw [e1, e2, h.cost, Int.add_comm (tc g c (x + g.w * y))]
    by_cases h0 : a = 0 ∨ b = 0
    · rw [if_pos h0, if_pos (by omega)]
    · rw [if_neg h0, if_neg (by omega)]
  · rw [e1, e2]
    rcases h.sd with hs | hs
    · exact .inl (by omega)
    · exact .inr ⟨hs.2, hs.1⟩
theorem Ed.symm {g : Grd} {c : Int} {fr : List Bool} (hg : GOk g) {t u k : Int} (ht : 0 ≤ t ∧ t < g.w * g.h) (hf : gi fr t = true) (hE : Ed g c fr t u k) : Ed g c fr u t k := by
  obtain ⟨a, b, rfl, h⟩ := (Ed.iff hg ht).1 hE
  obtain ⟨hon, he⟩ := On.of hg ht
  have hxy := h.to.1.xy
  refine (Ed.iff hg (h.to.1.bd hg).1).2 ⟨-a, -b, ?_, ?_⟩
  · rw [hxy.1, hxy.2, show t % g.w + a + -a = t % g.w by omega, show t / g.w + b + -b = t / g.w by omega, he]
  · rw [hxy.1, hxy.2]; exact h.symm ⟨hon, by rw [he]; exact hf⟩
/-- A walk, and what it costs. -/
inductive Wk (E : Int → Int → Int → Prop) : Int → Int → Int → Prop
  | nil (t : Int) : Wk E t t 0
  | step {t u v c k : Int} : Wk E t u c → E u v k → Wk E t v (c + k)
theorem Wk.cons {E : Int → Int → Int → Prop} {t u v k c : Int} (h : E t u k) (w : Wk E u v c) : Wk E t v (k + c) := by
  induction w with
  | nil => rw [Int.add_comm]; exact .step (.nil t) h
  | step _ e ih => rw [← Int.add_assoc]; exact .step ih e
theorem Wk.rev {E : Int → Int → Int → Prop} (ok : Int → Prop) (hs : ∀ u v k, ok u → E u v k → ok v ∧ E v u k) {t u c : Int} (ht : ok t) (w : Wk E t u c) : ok u ∧ Wk E u t c := by
  induction w with
  | nil => exact ⟨ht, .nil _⟩
  | step _ e ih =>
    have h1 := ih
    have h2 := hs _ _ _ h1.1 e
    refine ⟨h2.1, ?_⟩
    rw [Int.add_comm]; exact .cons h2.2 h1.2
theorem LD.walk {N goal : Int} {E : Int → Int → Int → Prop} {d : List Int} (h : LD N E goal d) (hb : ∀ t u k, (0 ≤ t ∧ t < N) → E t u k → 0 ≤ u ∧ u < N) {t u c : Int} (ht : 0 ≤ t ∧ t < N) (h0 : 0 ≤ gi d t) (w : Wk E t u c) : (0 ≤ u ∧ u < N) ∧ 0 ≤ gi d u ∧ gi d u ≤ gi d t + c := by
  induction w with
  | nil => exact ⟨ht, h0, by omega⟩
  | step _ e ih =>
    have h1 := ih
    have h2 := h.edge _ _ _ h1.1 h1.2.1 e
    exact ⟨hb _ _ _ h1.1 e, h2.1, by omega⟩
theorem LD.has {N goal : Int} {E : Int → Int → Int → Prop} {d : List Int} (h : LD N E goal d) : ∀ t, (0 ≤ t ∧ t < N) → 0 ≤ gi d t → Wk E goal t (gi d t) := by
  have key : ∀ n : Nat, ∀ t, (0 ≤ t ∧ t < N) → 0 ≤ gi d t → gi d t ≤ n → Wk E goal t (gi d t) := by
    intro n
    induction n with
    | zero =>
      intro t ht h0 hn
      by_cases hg : t = goal
      · subst hg; rw [h.zero]; exact .nil t
      · obtain ⟨u, k, hu, he, hk, hd, hs⟩ := h.sup t ht hg h0
        omega
    | succ n ih =>
      intro t ht h0 hn
      by_cases hg : t = goal
      · subst hg; rw [h.zero]; exact .nil t
      · obtain ⟨u, k, hu, he, hk, hd, hs⟩ := h.sup t ht hg h0
        rw [← hs]
        exact .step (ih u hu hd (by omega)) he
  exact fun t ht h0 => key (gi d t).toNat t ht h0 (by omega)
end Go.Proofs.Ytiipgdmcgmbbkaa
