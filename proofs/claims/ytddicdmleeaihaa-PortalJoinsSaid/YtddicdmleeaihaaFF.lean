/-
  The plain side of a flood: what is reached by steps, the least that is reached. No program in sight; the conditions stand in each lemma.
-/

namespace Go.Proofs.Ytddicdmleeaihaa
namespace Ff
/-- Reached by steps. -/
inductive Rch (A : Int → Int → Prop) : Int → Int → Prop
  | refl (a : Int) : Rch A a a
  | step {a b c : Int} : Rch A a b → A b c → Rch A a c
theorem Rch.one {A : Int → Int → Prop} {a b : Int} (h : A a b) : Rch A a b := .step (.refl a) h
theorem Rch.trans {A : Int → Int → Prop} {a b c : Int} (h : Rch A a b) (k : Rch A b c) : Rch A a c := by
  induction k with
  | refl => exact h
  | step _ hs ih => exact .step ih hs
theorem Rch.symm {A : Int → Int → Prop} (hA : ∀ a b, A a b → A b a) {a b : Int} (h : Rch A a b) : Rch A b a := by
  induction h with
  | refl => exact .refl _
  | step _ hs ih => exact (Rch.one (hA _ _ hs)).trans ih
/-- What is closed under steps holds all that is reached. -/
theorem Rch.closed {A : Int → Int → Prop} {p : Int → Prop} (hp : ∀ a b, p a → A a b → p b) {a b : Int} (h : Rch A a b) (ha : p a) : p b := by
  induction h with
  | refl => exact ha
  | step _ hs ih => exact hp _ _ ih hs
/-- The least that is reached. -/
def Lab (A : Int → Int → Prop) (t m : Int) : Prop := Rch A t m ∧ ∀ u, Rch A t u → m ≤ u
theorem Lab.uniq {A : Int → Int → Prop} {t m n : Int} (h : Lab A t m) (k : Lab A t n) : m = n := by
  have h1 := h.2 n k.1
  have h2 := k.2 m h.1
  omega
/-- What is reached has the same least one. -/
theorem Lab.of {A : Int → Int → Prop} (hA : ∀ a b, A a b → A b a) {t u m : Int} (h : Lab A t m) (hr : Rch A t u) : Lab A u m :=
  ⟨(hr.symm hA).trans h.1, fun v hv => h.2 v (hr.trans hv)⟩
/-- One that is not in a closed set that holds all lesser ones that it reaches is its own least one. -/
theorem Lab.root {A : Int → Int → Prop} (hA : ∀ a b, A a b → A b a) {p : Int → Prop} (hp : ∀ a b, p a → A a b → p b) {t : Int} (ht : ¬ p t) (hl : ∀ u, Rch A t u → u < t → p u) : Lab A t t :=
  ⟨.refl t, fun u hu => by
    rcases Int.lt_or_le u t with h | h
    · exact absurd ((hu.symm hA).closed hp (hl u hu h)) ht
    · exact h⟩
/-- A labelling that is at rest: each label is reached and not greater than its own place; neighbours agree. -/
theorem Lab.rest {A : Int → Int → Prop} {p : Int → Int} (hr : ∀ t, Rch A t (p t) ∧ p t ≤ t) (hn : ∀ a b, A a b → p b ≤ p a) (hA : ∀ a b, A a b → A b a) (t : Int) : Lab A t (p t) := by
  refine ⟨(hr t).1, fun u hu => ?_⟩
  have h : p t ≤ p u := (hu.symm hA).closed (p := fun v => p v ≤ p u) (fun a b h1 h2 => Int.le_trans (hn a b h2) h1) (Int.le_refl _)
  exact Int.le_trans h (hr u).2
end Ff
end Go.Proofs.Ytddicdmleeaihaa
