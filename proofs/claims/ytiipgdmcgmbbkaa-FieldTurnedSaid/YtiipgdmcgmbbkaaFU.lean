
/-
  The queue as a pure function: a heap; what is put in, and what comes out. The conditions stand in each lemma.
-/

import Derived.Test.YtiipgdmcgmbbkaaFG
import Derived.Test.YtiipgdmcgmbbkaaBT
set_option linter.unusedVariables false
set_option linter.unusedSimpArgs false
namespace Go.Proofs.Ytiipgdmcgmbbkaa
open Go.Vg
def Itm.Lt (a b : Itm) : Prop := a.key < b.key ∨ a.key = b.key ∧ a.val < b.val
instance (a b : Itm) : Decidable (Itm.Lt a b) := by unfold Itm.Lt; exact inferInstance
namespace Qp
abbrev el (l : List Itm) (i : Nat) : Itm := l.getD i ⟨0, 0⟩
def swp (l : List Itm) (i j : Nat) : List Itm := (l.set i (el l j)).set j (el l i)
theorem el_eq {l : List Itm} {i : Nat} (h : i < l.length) : l[i]? = some (el l i) := by simp [el, h]
theorem len_swp (l : List Itm) (i j : Nat) : (swp l i j).length = l.length := by simp [swp]
theorem el_swp {l : List Itm} {i j k : Nat} (hi : i < l.length) (hj : j < l.length) : el (swp l i j) k = if k = j then el l i else if k = i then el l j else el l k := by
  unfold el swp
  by_cases h1 : k = j
  · subst h1; simp [hj]
  · rw [if_neg h1]
    simp only [List.getD_eq_getElem?_getD]
    rw [List.getElem?_set_ne (fun e => h1 e.symm)]
    by_cases h2 : k = i
    · subst h2; simp [hi]
    · rw [if_neg h2, List.getElem?_set_ne (fun e => h2 e.symm)]
theorem count_set (a : Itm) : ∀ (l : List Itm) (i : Nat) (x : Itm), i < l.length → (l.set i x).count a + (if el l i = a then 1 else 0) = l.count a + (if x = a then 1 else 0)
  | [], i, x, h => by simp at h
  | y :: l, 0, x, _ => by simp [List.count_cons, el]; split <;> split <;> simp_all <;> omega
  | y :: l, i + 1, x, h => by
    have := count_set a l i x (by simpa using h)
    simp only [List.set_cons_succ, List.count_cons]
    have e : el (y :: l) (i + 1) = el l i := by simp [el]
    rw [e]; omega
theorem perm_swp {l : List Itm} {i j : Nat} (hi : i < l.length) (hj : j < l.length) : (swp l i j).Perm l := by
  rw [List.perm_iff_count]
  intro a
  have h1 := count_set a l i (el l j) hi
  have h2 := count_set a (l.set i (el l j)) j (el l i) (by simpa using hj)
  have h3 : el (l.set i (el l j)) j = el l j := by
    by_cases h : i = j
    · subst h; unfold el; simp [hi]
    · unfold el; simp only [List.getD_eq_getElem?_getD]; rw [List.getElem?_set_ne h]
  rw [h3] at h2
  unfold swp
  omega

/-- A heap but for the element at i, which may be less than what is above it. -/
def HUp (l : List Itm) (i : Nat) : Prop := (∀ j, 0 < j → j < l.length → j ≠ i → ¬ (el l j).Lt (el l ((j - 1) / 2))) ∧ (∀ j, 0 < j → j < l.length → (j - 1) / 2 = i → 0 < i → ¬ (el l j).Lt (el l ((i - 1) / 2)))
def Heap (l : List Itm) : Prop := ∀ j, 0 < j → j < l.length → ¬ (el l j).Lt (el l ((j - 1) / 2))
/-- A heap but for the element at i, which may be greater than those below it. -/
def HDn (l : List Itm) (i : Nat) : Prop := (∀ j, 0 < j → j < l.length → (j - 1) / 2 ≠ i → ¬ (el l j).Lt (el l ((j - 1) / 2))) ∧ (∀ j, 0 < j → j < l.length → (j - 1) / 2 = i → 0 < i → ¬ (el l j).Lt (el l ((i - 1) / 2)))

theorem Heap.push {l : List Itm} (h : Heap l) (x : Itm) : HUp (l ++ [x]) l.length := by
  have e : ∀ k, k < l.length → el (l ++ [x]) k = el l k := fun k hk => by unfold el; simp only [List.getD_eq_getElem?_getD]; rw [List.getElem?_append_left hk]
  constructor
  · intro j h0 hj hne
    simp at hj
    rw [e j (by omega), e _ (by omega)]
    exact h j h0 (by omega)
  · intro j h0 hj hp _
    simp at hj; omega
theorem HUp.done {l : List Itm} {i : Nat} (h : HUp l i) (hs : i = 0 ∨ ¬ (el l i).Lt (el l ((i - 1) / 2))) : Heap l := by
  intro j h0 hj
  by_cases hji : j = i
  · subst hji
    rcases hs with hs | hs
    · omega
    · exact hs
  · exact h.1 j h0 hj hji
theorem HUp.step {l : List Itm} {i : Nat} (h : HUp l i) (h0 : 0 < i) (hi : i < l.length) (hlt : (el l i).Lt (el l ((i - 1) / 2))) : HUp (swp l i ((i - 1) / 2)) ((i - 1) / 2) := by
  have hup : (i - 1) / 2 < l.length := by omega
  have hne : (i - 1) / 2 ≠ i := by omega
  constructor
  · intro j j0 hj hjn
    rw [len_swp] at hj
    rw [el_swp hi hup, el_swp hi hup, if_neg hjn]
    by_cases hji : j = i
    · subst hji
      rw [if_pos rfl, if_pos rfl]
      unfold Itm.Lt at *; omega
    · rw [if_neg hji]
      by_cases hp : (j - 1) / 2 = (i - 1) / 2
      · rw [if_pos hp]
        have := h.1 j j0 hj hji
        rw [hp] at this
        unfold Itm.Lt at *; omega
      · rw [if_neg hp]
        by_cases hp2 : (j - 1) / 2 = i
        · rw [if_pos hp2]; exact h.2 j j0 hj hp2 h0
        · rw [if_neg hp2]; exact h.1 j j0 hj hji
  · intro j j0 hj hp hu0
    rw [len_swp] at hj
    have hup2 : ((i - 1) / 2 - 1) / 2 ≠ (i - 1) / 2 := by omega
    have hup3 : ((i - 1) / 2 - 1) / 2 ≠ i := by omega
    rw [el_swp hi hup, el_swp hi hup, if_neg hup2, if_neg hup3, if_neg (by omega)]
    have hu := h.1 ((i - 1) / 2) hu0 hup hne
    by_cases hji : j = i
    · rw [if_pos hji]; exact hu
    · rw [if_neg hji]
      have := h.1 j j0 hj hji
      rw [hp] at this
      unfold Itm.Lt at *; omega

/-- The least is at the head. -/
theorem Heap.head {l : List Itm} (h : Heap l) : ∀ i, i < l.length → ¬ (el l i).Lt (el l 0) := by
  intro i
  induction i using Nat.strongRecOn with
  | _ i ih =>
    intro hi
    by_cases h0 : i = 0
    · subst h0; unfold Itm.Lt; omega
    · have h1 := h i (by omega) hi
      have h2 := ih ((i - 1) / 2) (by omega) (by omega)
      unfold Itm.Lt at *; omega

theorem HDn.done {l : List Itm} {i : Nat} (h : HDn l i) (hs : ∀ j, 0 < j → j < l.length → (j - 1) / 2 = i → ¬ (el l j).Lt (el l i)) : Heap l := by
  intro j h0 hj
  by_cases hji : (j - 1) / 2 = i
  · rw [hji]; exact hs j h0 hj hji
  · exact h.1 j h0 hj hji
/-- k: the less one of those below i. -/
theorem HDn.step {l : List Itm} {i k : Nat} (h : HDn l i) (hk : k < l.length) (hk0 : 0 < k) (hki : (k - 1) / 2 = i) (hlt : (el l k).Lt (el l i)) (hmin : ∀ j, 0 < j → j < l.length → (j - 1) / 2 = i → ¬ (el l j).Lt (el l k)) : HDn (swp l i k) k := by
  have hi : i < l.length := by omega
  have hik : i ≠ k := by omega
  constructor
  · intro j j0 hj hjn
    rw [len_swp] at hj
    rw [el_swp hi hk, el_swp hi hk, if_neg hjn]
    by_cases hp : (j - 1) / 2 = i
    · rw [if_pos hp]
      by_cases hjk : j = k
      · subst hjk; rw [if_pos rfl]; unfold Itm.Lt at *; omega
      · rw [if_neg hjk, if_neg (by omega)]; exact hmin j j0 hj hp
    · rw [if_neg hp]
      by_cases hjk : j = k
      · omega
      · rw [if_neg hjk]
        by_cases hji : j = i
        · rw [if_pos hji]
          subst hji
          exact h.2 k hk0 hk hki j0
        · rw [if_neg hji]; exact h.1 j j0 hj hp
  · intro j j0 hj hp hk0'
    rw [len_swp] at hj
    rw [el_swp hi hk, el_swp hi hk, if_neg (by omega), if_neg (by omega), hki, if_neg hik, if_pos rfl]
    have := h.1 j j0 hj (by omega)
    rw [hp] at this
    exact this

/-- What is left when the last one has been put at the head and the list is one shorter. -/
theorem pop_perm {l : List Itm} (hne : 0 < l.length) : (el l 0 :: ((l.set 0 (el l (l.length - 1))).take (l.length - 1))).Perm l := by
  cases l with
  | nil => simp at hne
  | cons x l =>
    rcases List.eq_nil_or_concat l with rfl | ⟨l', y, rfl⟩
    · simp [el]
    · have e : el (x :: (l' ++ [y])) ((x :: (l' ++ [y])).length - 1) = y := by
        unfold el; simp
      rw [List.concat_eq_append] at *
      rw [e]
      simp only [List.set_cons_zero, List.length_cons, List.length_append, List.length_nil, Nat.add_sub_cancel]
      rw [show l'.length + (0 + 1) = l'.length + 1 by omega, List.take_succ_cons, List.take_left]
      have : el (x :: (l' ++ [y])) 0 = x := by simp [el]
      rw [this]
      refine .cons x ?_
      exact (List.perm_append_comm (l₁ := [y]) (l₂ := l'))
theorem Heap.popStart {l : List Itm} (h : Heap l) (hne : 0 < l.length) : HDn ((l.set 0 (el l (l.length - 1))).take (l.length - 1)) 0 := by
  have e : ∀ k, 0 < k → k < l.length - 1 → el ((l.set 0 (el l (l.length - 1))).take (l.length - 1)) k = el l k := fun k h0 hk => by
    unfold el
    simp only [List.getD_eq_getElem?_getD, List.getElem?_take, if_pos hk]
    rw [List.getElem?_set_ne (by omega)]
  constructor
  · intro j j0 hj hp
    simp at hj
    rw [e j j0 (by omega), e _ (by omega) (by omega)]
    exact h j j0 (by omega)
  · intro j _ _ _ h0; omega
theorem gi_el (l : List Itm) (i : Int) : gi l i = el l i.toNat := rfl
theorem less_p (a b : Itm) : queue_item_less a b = some (decide (a.Lt b)) := rfl
theorem push_p {q : Que} (h : Heap q.l) (hl : q.l.length < 1000000) (k v : Int) : Ok (queue_Queue_Push q k v) fun r => Heap r.l ∧ r.l.Perm (⟨k, v⟩ :: q.l) := by
  unfold queue_Queue_Push
  obtain ⟨L, hL⟩ : ∃ L, L = q.l ++ [(⟨k, v⟩ : Itm)] := ⟨_, rfl⟩
  have hLl : L.length = q.l.length + 1 := by rw [hL]; simp
  have hLp : L.Perm (⟨k, v⟩ :: q.l) := by rw [hL]; exact List.perm_append_comm (l₁ := q.l) (l₂ := [⟨k, v⟩])
  rw [← hL]
  refine Ok.gd (by omega) (Ok.gd (by unfold I64; omega) ?_)
  refine Ok.bind (R := fun x => match x with | .go r => Heap r ∧ r.Perm (⟨k, v⟩ :: q.l) | .up r => Heap r.l ∧ r.l.Perm (⟨k, v⟩ :: q.l)) (Ok.loop (fun z : Int × List Itm => (0 ≤ z.1 ∧ z.1 < L.length) ∧ z.2.length = L.length ∧ HUp z.2 z.1.toNat ∧ z.2.Perm (⟨k, v⟩ :: q.l)) (fun z => z.1.toNat)
    ⟨by show 0 ≤ (L.length : Int) - 1 ∧ (L.length : Int) - 1 < _; omega, rfl, ?_, hLp⟩ (by unfold FUEL; show ((L.length : Int) - 1).toNat < _; omega) ?_) ?_
  · show HUp L ((L.length : Int) - 1).toNat
    have := h.push (⟨k, v⟩ : Itm)
    rw [← hL] at this
    rw [show ((L.length : Int) - 1).toNat = q.l.length by omega]
    exact this
  · rintro ⟨i, l⟩ ⟨⟨i0, i1⟩, hl2, hu, hp⟩
    dsimp only at i0 i1 hl2 hu hp ⊢
    refine Ok.ite (fun hi => ?_) (fun hi => Ok.ret ⟨hu.done (.inl (by omega)), hp⟩)
    refine Ok.gd (by unfold I64; omega) (Ok.gd (by omega) (Ok.gd (by omega) (Ok.gd (by omega) ?_)))
    have e1 : ((i - 1) / 2).toNat = (i.toNat - 1) / 2 := by omega
    rw [less_p, bsome, gi_el, gi_el, e1]
    refine Ok.ite (fun hc => Ok.ret ?_) (fun hc => Ok.gd (by omega) (Ok.gd (by omega) (Ok.gd (by omega) (Ok.gd (by omega) (Ok.ret ⟨⟨by show 0 ≤ (i - 1) / 2 ∧ (i - 1) / 2 < _; omega, ?_, ?_, ?_⟩, by show ((i - 1) / 2).toNat < _; omega⟩)))))
    · exact ⟨hu.done (.inr (by simpa using hc)), hp⟩
    · show (si (si l i _) ((i - 1) / 2) _).length = _
      rw [len_si, len_si]; exact hl2
    · show HUp (si (si l i (el l ((i.toNat - 1) / 2))) ((i - 1) / 2) (el l i.toNat)) ((i - 1) / 2).toNat
      have := hu.step (by omega) (by omega) (by simpa using hc)
      unfold si
      rw [e1]
      exact this
    · show (si (si l i (el l ((i.toNat - 1) / 2))) ((i - 1) / 2) (el l i.toNat)).Perm _
      have := perm_swp (l := l) (i := i.toNat) (j := (i.toNat - 1) / 2) (by omega) (by omega)
      unfold si
      rw [e1]
      exact this.trans hp
  · intro x hx
    cases x with
    | go r => exact Ok.ret hx
    | up r => exact Ok.ret hx
theorem pop_p {q : Que} (h : Heap q.l) (hl : q.l.length < 1000000) : Ok (queue_Queue_Pop q) fun r => (q.l = [] ∧ r.2.2.1 = false ∧ r.2.2.2 = q) ∨ (r.2.2.1 = true ∧ Heap r.2.2.2.l ∧ (⟨r.1, r.2.1⟩ :: r.2.2.2.l).Perm q.l ∧ ∀ x ∈ q.l, ¬ x.Lt ⟨r.1, r.2.1⟩) := by
  unfold queue_Queue_Pop
  refine Ok.gd (by unfold I64; omega) (Ok.ite (fun hn => Ok.ret (.inl ⟨List.length_eq_zero_iff.1 (by omega), rfl, rfl⟩)) (fun hn => ?_))
  refine Ok.gd (by omega) (Ok.gd (by omega) (Ok.gd (by omega) (Ok.gd (by omega) ?_)))
  obtain ⟨L, hL⟩ : ∃ L, L = (si q.l (0 : Int) (gi q.l ((q.l.length : Int) - 1))).take ((q.l.length : Int) - 1).toNat := ⟨_, rfl⟩
  have en : ((q.l.length : Int) - 1).toNat = q.l.length - 1 := by omega
  have hL2 : L = (q.l.set 0 (el q.l (q.l.length - 1))).take (q.l.length - 1) := by rw [hL, gi_el, en]; rfl
  have hLl : L.length = q.l.length - 1 := by rw [hL2, List.length_take, List.length_set]; omega
  have hLp : (el q.l 0 :: L).Perm q.l := by rw [hL2]; exact pop_perm (by omega)
  have hd0 : HDn L 0 := by rw [hL2]; exact h.popStart (by omega)
  rw [← hL]
  refine Ok.bind (R := fun r => Heap r ∧ r.Perm L) (Ok.loop (fun z : Int × List Itm => 0 ≤ z.1 ∧ z.1 ≤ q.l.length ∧ z.2.length = L.length ∧ HDn z.2 z.1.toNat ∧ z.2.Perm L) (fun z => (q.l.length - z.1).toNat)
    ⟨Int.le_refl _, by show (0 : Int) ≤ _; omega, rfl, hd0, .refl _⟩ (by unfold FUEL; show ((q.l.length : Int) - 0).toNat < _; omega) ?_) ?_
  · rintro ⟨i, l⟩ ⟨i0, i1, hl2, hd, hp⟩
    dsimp only at i0 i1 hl2 hd hp ⊢
    refine Ok.gd (by unfold I64; omega) (Ok.gd (by unfold I64; omega) (Ok.ite (fun hk => Ok.ret ⟨hd.done (fun j j0 j1 jp => by omega), hp⟩) (fun hk => Ok.gd (by unfold I64; omega) ?_)))
    -- the less one of the two below
    refine Ok.bind (R := fun b => b = true ↔ (2 * i + 1 + 1 < (q.l.length : Int) - 1 ∧ (gi l (2 * i + 1 + 1)).Lt (gi l (2 * i + 1)))) (Ok.ite (fun hc => ?_) (fun hc => Ok.ret ⟨fun e => (by cases e), fun e => absurd e.1 hc⟩)) (fun b hb => ?_)
    · refine Ok.gd (by unfold I64; omega) (Ok.gd (by omega) (Ok.gd (by omega) ?_))
      rw [less_p, bsome]
      exact Ok.ret ⟨fun e => ⟨hc, of_decide_eq_true e⟩, fun e => decide_eq_true e.2⟩
    · refine Ok.bind (R := fun k => (k = 2 * i + 1 ∨ (k = 2 * i + 2 ∧ 2 * i + 2 < (q.l.length : Int) - 1)) ∧ ∀ j : Int, j < (q.l.length : Int) - 1 → (j = 2 * i + 1 ∨ j = 2 * i + 2) → ¬ (gi l j).Lt (gi l k)) (Ok.ite (fun hbt => Ok.gd (by unfold I64; omega) (Ok.ret ?_)) (fun hbf => Ok.ret ?_)) (fun k hk2 => ?_)
      · have h1 := hb.1 hbt
        have e : 2 * i + 1 + 1 = 2 * i + 2 := by omega
        rw [e] at h1 ⊢
        refine ⟨.inr ⟨rfl, h1.1⟩, fun j j1 hj => ?_⟩
        rcases hj with rfl | rfl
        · have := h1.2; unfold Itm.Lt at *; omega
        · unfold Itm.Lt; omega
      · refine ⟨.inl rfl, fun j j1 hj => ?_⟩
        rcases hj with rfl | rfl
        · unfold Itm.Lt; omega
        · intro hlt
          exact hbf (hb.2 ⟨by omega, by rw [show 2 * i + 1 + 1 = 2 * i + 2 by omega]; exact hlt⟩)
      · obtain ⟨hk3, hmin⟩ := hk2
        have hkb : 0 ≤ k ∧ k < (q.l.length : Int) - 1 := by omega
        refine Ok.gd (by omega) (Ok.gd (by omega) ?_)
        rw [less_p, bsome]
        have hmin2 : ∀ j, 0 < j → j < l.length → (j - 1) / 2 = i.toNat → ¬ (el l j).Lt (el l k.toNat) := fun j j0 j1 jp => by
          have := hmin (j : Int) (by omega) (by omega)
          rw [gi_el, gi_el] at this
          exact this
        refine Ok.ite (fun hc => Ok.ret ⟨hd.done (fun j j0 j1 jp => ?_), hp⟩) (fun hc => Ok.gd (by omega) (Ok.gd (by omega) (Ok.gd (by omega) (Ok.gd (by omega) (Ok.ret ⟨⟨hkb.1, by show k ≤ _; omega, ?_, ?_, ?_⟩, by show ((q.l.length : Int) - k).toNat < _; omega⟩)))))
        · have h1 := hmin2 j j0 j1 jp
          have h2 : ¬ (gi l k).Lt (gi l i) := by simpa using hc
          rw [gi_el, gi_el] at h2
          unfold Itm.Lt at *; omega
        · show (si (si l i _) k _).length = _
          rw [len_si, len_si]; exact hl2
        · have h2 : (gi l k).Lt (gi l i) := by simpa using hc
          rw [gi_el, gi_el] at h2
          exact hd.step (by omega) (by omega) (by omega) h2 hmin2
        · exact (perm_swp (l := l) (i := i.toNat) (j := k.toNat) (by omega) (by omega)).trans hp
  · rintro r ⟨hr, hrp⟩
    refine Ok.ret (.inr ⟨rfl, hr, ?_, fun x hx => ?_⟩)
    · show ((el q.l 0) :: r).Perm q.l
      exact (hrp.cons _).trans hLp
    · obtain ⟨i, hi, e⟩ := List.getElem_of_mem hx
      have := h.head i hi
      unfold el at this
      rw [List.getD_eq_getElem?_getD, List.getElem?_eq_getElem hi, Option.getD_some, e] at this
      exact this
end Qp
end Go.Proofs.Ytiipgdmcgmbbkaa
