/-
  The plain side of the page's queue: the least of a list, put out of it. No program in sight; no condition.
-/
import Derived.Test.YtacpdjccbadomaaQP
import Derived.Test.YtacpdjccbadomaaVI
namespace Go.Proofs.Ytacpdjccbadomaa
namespace Qp
open Go.Vg
theorem gi_map {α β : Type} [Inhabited α] [Inhabited β] (f : α → β) {l : List α} {j : Int} (h : 0 ≤ j ∧ j < l.length) : gi (l.map f) j = f (gi l j) := by
  have hl : j.toNat < l.length := by omega
  simp [gi, List.getD, List.getElem?_eq_getElem hl]
theorem gi_el (l : List Item) (j : Int) : gi l j = el l j.toNat := rfl
/-- The least one is the sorted list's head. -/
theorem rq_min {l r : List Item} {x : Item} {b : Int} (hp : l.Perm (x :: r)) (hs : Srt (x :: r)) (hb : 0 ≤ b ∧ b < l.length) (hm : ∀ j : Int, 0 ≤ j → j < l.length → ¬ (gi l j).Lt (gi l b)) : gi l b = x := by
  have h1 : gi l b ∈ x :: r := hp.mem_iff.1 (gi_mem hb)
  obtain ⟨k, hk, hke⟩ := List.getElem_of_mem (hp.mem_iff.2 (List.mem_cons_self))
  have h2 := hm k (by omega) (by omega)
  have h3 : gi l (k : Int) = x := by rw [gi_nat]; simp [List.getD, List.getElem?_eq_getElem hk, hke]
  rw [h3] at h2
  rcases List.mem_cons.1 h1 with h | h
  · exact h
  · exact (Item.eq_of h2 (hs.1 _ h)).symm
/-- What is left. -/
theorem rq_rest {l r : List Item} {x : Item} {b : Int} (hp : l.Perm (x :: r)) (hb : 0 ≤ b ∧ b < l.length) (hx : gi l b = x) : ((si l b (gi l ((l.length : Int) - 1))).take (l.length - 1)).Perm r := by
  have h1 : (swp l b.toNat (l.length - 1)).Perm l := perm_swp (by omega) (by omega)
  have h2 : swp l b.toNat (l.length - 1) = (si l b (gi l ((l.length : Int) - 1))).take (l.length - 1) ++ [gi l b] := by
    rw [gi_el, gi_el, show ((l.length : Int) - 1).toNat = l.length - 1 by omega]
    unfold swp si
    have hlen : (l.set b.toNat (el l (l.length - 1))).length = l.length := by simp
    apply List.ext_getElem?
    intro i
    by_cases hi2 : i = l.length - 1
    · subst hi2
      rw [List.getElem?_append_right (by simp), List.getElem?_set_self (by rw [hlen]; omega)]
      simp only [List.length_take, hlen]
      rw [show l.length - 1 - min (l.length - 1) l.length = 0 by omega]
      rfl
    · rw [List.getElem?_set_ne (fun e => hi2 e.symm)]
      by_cases hi : i < l.length - 1
      · rw [List.getElem?_append_left (by simp; omega), List.getElem?_take, if_pos hi]
      · rw [List.getElem?_eq_none (by rw [hlen]; omega), List.getElem?_eq_none (by simp; omega)]
  rw [h2, hx] at h1
  exact (((List.perm_append_comm (l₁ := [x])).trans h1).trans hp).cons_inv
theorem rq_maps {l : List Item} {b c : Int} {n : Nat} (hc : 0 ≤ c ∧ c < l.length) (f : Item → Int) : (si (l.map f) b (gi (l.map f) c)).take n = ((si l b (gi l c)).take n).map f := by
  rw [gi_map f hc, List.map_take]; unfold si; rw [List.map_set]
end Qp
end Go.Proofs.Ytacpdjccbadomaa
