/-
  The worlds of a walk told by chunks: 'Sat w0 G w' says that w extends w0 and that beside it the chunks of the list G lie apart from one another in blocks that are younger than w0. For every world, with no condition. A library of this claim's own.
-/
import Derived.Still
import Derived.Tactics
import Derived.Below
import Derived.Laws.Append
namespace Go.Vg
open Go.RowKit (Below)

/-- All that was in 'w' is so in 'w''; there may be more. -/
abbrev Ext (w w' : World) : Prop := Below w.heap.size w w'

theorem Ext.refl (w : World) : Ext w w := Below.refl _ w
theorem Ext.trans {a b c : World} (h : Ext a b) (k : Ext b c) : Ext a c := Below.trans h (Below.mono k h.size)
theorem Ext.drew (w : World) : Ext w w.drew := Below.drew (Below.refl _ w)
theorem Ext.drawn (w : World) (n : Nat) : Ext w { w with drawn := n } := ⟨rfl, rfl, rfl, Nat.le_refl _, fun _ _ => rfl⟩
theorem Ext.alloc (w : World) (o : Obj) : Ext w (w.alloc o) := Below.alloc (Below.refl _ w) (Nat.le_refl _) o

/-- A part of a memory. -/
abbrev Hp := Nat → Option Obj
def hpOf (w : World) : Hp := fun k => w.heap[k]?
def Hp.le (h h' : Hp) : Prop := ∀ b o, h b = some o → h' b = some o
def Hp.over (h B : Hp) : Hp := fun b => match h b with | some o => some o | none => B b

/-- Without one block. -/
def Hp.off (h : Hp) (g : Nat) : Hp := fun b => if b = g then none else h b
theorem Hp.off_le (h : Hp) (g : Nat) : (h.off g).le h := fun b o e => by
  unfold Hp.off at e
  split at e
  · cases e
  · exact e
theorem Hp.le_refl (h : Hp) : h.le h := fun _ _ e => e
theorem Hp.le_trans {a b c : Hp} (h : a.le b) (k : b.le c) : a.le c := fun x o e => k x o (h x o e)
theorem Hp.over_le {h B k : Hp} (h1 : h.le k) (h2 : B.le k) : (h.over B).le k := by
  intro b o e
  unfold Hp.over at e
  split at e
  · rename_i o' e'; cases e; exact h1 b _ e'
  · exact h2 b o e
theorem Hp.le_over (h B : Hp) : h.le (h.over B) := by
  intro b o e; simp [Hp.over, e]

theorem lt_of_hp {w : World} {b : Nat} {o : Obj} (h : w.heap[b]? = some o) : b < w.heap.size := (Array.getElem?_eq_some_iff.1 h).1
theorem Ext.hp {w w' : World} (h : Ext w w') : (hpOf w).le (hpOf w') := fun b o e => by
  show w'.heap[b]? = some o
  rw [h.block b (lt_of_hp e)]; exact e

/-- What is said of a part of a memory. -/
abbrev Ch := Hp → Prop

/-- 'own' tells which chunk a block belongs to. -/
def Sat (w0 : World) (G : List Ch) (w : World) : Prop :=
  Ext w0 w ∧ ∃ own : Nat → Nat, ∀ i C, G[i]? = some C → ∃ h : Hp, C h ∧ ∀ b o, h b = some o → w0.heap.size ≤ b ∧ own b = i ∧ w.heap[b]? = some o

theorem Sat.ext {w0 w : World} {G : List Ch} (h : Sat w0 G w) : Ext w0 w := h.1

theorem Sat.start (w : World) : Sat w [] w := ⟨Ext.refl w, fun _ => 0, fun i C h => by simp at h⟩

/-- More memory, nothing else. -/
theorem Sat.grow {w0 w w' : World} {G : List Ch} (h : Sat w0 G w) (e : Ext w w') : Sat w0 G w' := by
  obtain ⟨h1, own, h2⟩ := h
  refine ⟨h1.trans e, own, fun i C hi => ?_⟩
  obtain ⟨p, hp, hb⟩ := h2 i C hi
  refine ⟨p, hp, fun b o hbo => ?_⟩
  obtain ⟨a1, a2, a3⟩ := hb b o hbo
  exact ⟨a1, a2, by rw [e.block b (lt_of_hp a3)]; exact a3⟩

/-- What one chunk says, of a part of the whole memory. -/
theorem Sat.get {w0 w : World} {G : List Ch} (h : Sat w0 G w) (i : Nat) {C : Ch} (hi : G[i]? = some C) :
    ∃ p : Hp, C p ∧ p.le (hpOf w) ∧ ∀ b o, p b = some o → w0.heap.size ≤ b := by
  obtain ⟨_, own, h2⟩ := h
  obtain ⟨p, hp, hb⟩ := h2 i C hi
  exact ⟨p, hp, fun b o e => (hb b o e).2.2, fun b o e => (hb b o e).1⟩

/-- Some of the chunks, in another order. -/
theorem Sat.pick {w0 w : World} {G G' : List Ch} (h : Sat w0 G w) (f : List Nat) (hn : f.Nodup) (hg : f.map (fun i => G[i]?) = G'.map some) : Sat w0 G' w := by
  obtain ⟨h1, own, h2⟩ := h
  refine ⟨h1, fun b => f.idxOf (own b), fun j C hj => ?_⟩
  have hj' : (G'.map some)[j]? = some (some C) := by simp [hj]
  rw [← hg, List.getElem?_map] at hj'
  obtain ⟨i, hi, hgi⟩ : ∃ i, f[j]? = some i ∧ G[i]? = some C := by
    cases hf : f[j]? with
    | none => simp [hf] at hj'
    | some i => exact ⟨i, rfl, by simpa [hf] using hj'⟩
  obtain ⟨p, hp, hb⟩ := h2 i C hgi
  refine ⟨p, hp, fun b o e => ?_⟩
  obtain ⟨a1, a2, a3⟩ := hb b o e
  refine ⟨a1, ?_, a3⟩
  show f.idxOf (own b) = j
  rw [a2]
  obtain ⟨hlt, hfe⟩ := List.getElem?_eq_some_iff.1 hi
  rw [← hfe]
  exact hn.idxOf_getElem j hlt

/-- A new block is a new chunk. -/
theorem Sat.new {w0 w w' : World} {G : List Ch} (h : Sat w0 G w) (e : Ext w w') (C : Ch) (p : Hp) (hp : C p) (hl : p.le (hpOf w')) (hf : ∀ b o, p b = some o → w.heap.size ≤ b) : Sat w0 (G ++ [C]) w' := by
  obtain ⟨h1, own, h2⟩ := h
  refine ⟨h1.trans e, fun b => if b < w.heap.size then own b else G.length, fun i D hi => ?_⟩
  rw [List.getElem?_append] at hi
  split at hi
  · obtain ⟨q, hq, hb⟩ := h2 i D hi
    refine ⟨q, hq, fun b o hbo => ?_⟩
    obtain ⟨a1, a2, a3⟩ := hb b o hbo
    have hlt := lt_of_hp a3
    exact ⟨a1, by simp [hlt, a2], by rw [e.block b hlt]; exact a3⟩
  · rename_i hge
    have hi0 : i - G.length = 0 := by
      rcases Nat.lt_or_ge (i - G.length) 1 with h | h
      · omega
      · simp [List.getElem?_eq_none (l := [C]) (by simpa using h)] at hi
    rw [hi0] at hi
    simp at hi; subst hi
    refine ⟨p, hp, fun b o hbo => ?_⟩
    have hge' := hf b o hbo
    exact ⟨Nat.le_trans h1.size hge', by show (if b < w.heap.size then own b else G.length) = i; rw [if_neg (by omega)]; omega, hl b o hbo⟩

/-- What a call has made of its own comes to what there was. -/
theorem Sat.join {w0 w w' : World} {G D : List Ch} (h : Sat w0 G w) (k : Sat w D w') : Sat w0 (G ++ D) w' := by
  obtain ⟨h1, own, h2⟩ := h
  obtain ⟨k1, own', k2⟩ := k
  refine ⟨h1.trans k1, fun b => if b < w.heap.size then own b else G.length + own' b, fun i C hi => ?_⟩
  rw [List.getElem?_append] at hi
  split at hi
  · obtain ⟨q, hq, hb⟩ := h2 i C hi
    refine ⟨q, hq, fun b o hbo => ?_⟩
    obtain ⟨a1, a2, a3⟩ := hb b o hbo
    have hlt := lt_of_hp a3
    exact ⟨a1, by simp [hlt, a2], by rw [k1.block b hlt]; exact a3⟩
  · rename_i hge
    obtain ⟨q, hq, hb⟩ := k2 _ C hi
    refine ⟨q, hq, fun b o hbo => ?_⟩
    obtain ⟨a1, a2, a3⟩ := hb b o hbo
    refine ⟨Nat.le_trans h1.size a1, ?_, a3⟩
    show (if b < w.heap.size then own b else G.length + own' b) = i
    rw [if_neg (by omega), a2]
    omega

/-- A chunk that owns nothing. -/
theorem Sat.addEmpty {w0 w : World} {G : List Ch} (h : Sat w0 G w) (C : Ch) (hc : ∀ p, C p) : Sat w0 (G ++ [C]) w := by
  refine h.new (Ext.refl w) C (fun _ => none) (hc _) (fun b o e => by cases e) (fun b o e => by cases e)

/-- One chunk is turned: its blocks, and new ones; nothing else is touched. -/
theorem Sat.turn {w0 w w' : World} {G : List Ch} (h : Sat w0 G w) (i : Nat) {C : Ch} (hi : G[i]? = some C) (C' : Ch)
    (hos : w'.os = w.os) (htape : w'.tape = w.tape) (hout : w'.output = w.output) (hsz : w.heap.size ≤ w'.heap.size)
    (step : ∀ p : Hp, C p → p.le (hpOf w) → (∀ b o, p b = some o → w0.heap.size ≤ b) →
      (∀ b, b < w.heap.size → p b = none → w'.heap[b]? = w.heap[b]?) ∧
      ∃ p' : Hp, C' p' ∧ ∀ b o, p' b = some o → (p b ≠ none ∨ w.heap.size ≤ b) ∧ w'.heap[b]? = some o) : Sat w0 (G.set i C') w' := by
  obtain ⟨h1, own, h2⟩ := h
  have hli : i < G.length := (List.getElem?_eq_some_iff.1 hi).1
  obtain ⟨p, hp, hb⟩ := h2 i C hi
  obtain ⟨hkeep, p', hp', hb'⟩ := step p hp (fun b o e => (hb b o e).2.2) (fun b o e => (hb b o e).1)
  have hpn : ∀ b, own b ≠ i → p b = none := fun b hne => by
    cases e : p b with
    | none => rfl
    | some o => exact absurd (hb b o e).2.1 hne
  have hpb : ∀ b, b < w0.heap.size → p b = none := fun b hlt => by
    cases e : p b with
    | none => rfl
    | some o => have := (hb b o e).1; omega
  have hext : Ext w0 w' := by
    refine ⟨hos.trans h1.os, htape.trans h1.tape, hout.trans h1.output, Nat.le_trans h1.size hsz, fun k hk => ?_⟩
    rw [hkeep k (Nat.lt_of_lt_of_le hk h1.size) (hpb k hk)]
    exact h1.block k hk
  refine ⟨hext, fun b => if b < w.heap.size then own b else i, fun j D hj => ?_⟩
  by_cases hji : i = j
  · subst hji
    have hD : D = C' := by
      rw [List.getElem?_set_self hli] at hj
      exact (Option.some.inj hj).symm
    subst hD
    refine ⟨p', hp', fun b o hbo => ?_⟩
    obtain ⟨c1, c2⟩ := hb' b o hbo
    rcases c1 with c1 | c1
    · cases e : p b with
      | none => exact absurd e c1
      | some o' =>
        obtain ⟨a1, a2, a3⟩ := hb b o' e
        exact ⟨a1, by simp [lt_of_hp a3, a2], c2⟩
    · exact ⟨Nat.le_trans h1.size c1, by show (if b < w.heap.size then own b else i) = i; rw [if_neg (by omega)], c2⟩
  · rw [List.getElem?_set_ne hji] at hj
    obtain ⟨q, hq, hbq⟩ := h2 j D hj
    refine ⟨q, hq, fun b o hbo => ?_⟩
    obtain ⟨a1, a2, a3⟩ := hbq b o hbo
    have hlt := lt_of_hp a3
    refine ⟨a1, by simp [hlt, a2], ?_⟩
    rw [hkeep b hlt (hpn b (by rw [a2]; exact fun e => hji e.symm))]
    exact a3

/-- A chunk that says less. -/
theorem Sat.weaken {w0 w : World} {G : List Ch} (h : Sat w0 G w) (i : Nat) {C : Ch} (hi : G[i]? = some C) (C' : Ch) (hc : ∀ p, C p → C' p) : Sat w0 (G.set i C') w := by
  have hli : i < G.length := (List.getElem?_eq_some_iff.1 hi).1
  obtain ⟨h1, own, h2⟩ := h
  refine ⟨h1, own, fun j D hj => ?_⟩
  by_cases hji : i = j
  · subst hji
    rw [List.getElem?_set_self hli] at hj
    obtain ⟨p, hp, hb⟩ := h2 i C hi
    exact ⟨p, by have := Option.some.inj hj; subst this; exact hc p hp, hb⟩
  · rw [List.getElem?_set_ne hji] at hj
    exact h2 j D hj

/-- Two chunks taken for one. -/
theorem Sat.merge {w0 w : World} {G : List Ch} {A B : Ch} (h : Sat w0 (A :: B :: G) w) (C : Ch) (hc : ∀ p q r : Hp, A p → B q → p.le r → q.le r → (∀ b, p b = none ∨ q b = none) → C r) : Sat w0 (C :: G) w := by
  obtain ⟨h1, own, h2⟩ := h
  obtain ⟨p, hp, hb⟩ := h2 0 A rfl
  obtain ⟨q, hq, hbq⟩ := h2 1 B rfl
  refine ⟨h1, fun b => own b - 1, fun j D hj => ?_⟩
  cases j with
  | zero =>
    simp at hj; subst hj
    refine ⟨p.over q, hc p q _ hp hq (Hp.le_over p q) ?_ ?_, fun b o e => ?_⟩
    · intro b o e
      unfold Hp.over
      cases e' : p b with
      | none => exact e
      | some o' => have h3 := (hb b o' e').2.1; have h4 := (hbq b o e).2.1; omega
    · intro b
      cases e : p b with
      | none => exact .inl rfl
      | some o =>
        cases e' : q b with
        | none => exact .inr rfl
        | some o' => have h3 := (hb b o e).2.1; have h4 := (hbq b o' e').2.1; omega
    · unfold Hp.over at e
      split at e
      · rename_i o' e'; cases e
        obtain ⟨a1, a2, a3⟩ := hb b _ e'
        exact ⟨a1, by simp [a2], a3⟩
      · obtain ⟨a1, a2, a3⟩ := hbq b _ e
        exact ⟨a1, by simp [a2], a3⟩
  | succ j =>
    obtain ⟨r, hr, hbr⟩ := h2 (j + 2) D (by simpa using hj)
    exact ⟨r, hr, fun b o e => by obtain ⟨a1, a2, a3⟩ := hbr b o e; exact ⟨a1, by simp [a2], a3⟩⟩

end Go.Vg
