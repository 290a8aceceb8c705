/-
  The plain side of the heap: a list that is a heap, an element that goes up or down in it, and the sorted list that it stands for. No program in sight; no condition.
-/

namespace Go.Proofs.Ytacpdjccbadomaa
structure Item where
  key : Int
  val : Int
  deriving DecidableEq, Inhabited
def Item.Lt (a b : Item) : Prop := a.key < b.key ∨ a.key = b.key ∧ a.val < b.val
instance (a b : Item) : Decidable (Item.Lt a b) := by unfold Item.Lt; exact inferInstance
namespace Qp
abbrev el (l : List Item) (i : Nat) : Item := l.getD i ⟨0, 0⟩
def swp (l : List Item) (i j : Nat) : List Item := (l.set i (el l j)).set j (el l i)
theorem el_eq {l : List Item} {i : Nat} (h : i < l.length) : l[i]? = some (el l i) := by simp [el, h]
theorem len_swp (l : List Item) (i j : Nat) : (swp l i j).length = l.length := by simp [swp]
theorem el_swp {l : List Item} {i j k : Nat} (hi : i < l.length) (hj : j < l.length) : el (swp l i j) k = if k = j then el l i else if k = i then el l j else el l k := by
  unfold el swp
  by_cases h1 : k = j
  · subst h1; simp [hj]
  · rw [if_neg h1]
    simp only [List.getD_eq_getElem?_getD]
    rw [List.getElem?_set_ne (fun e => h1 e.symm)]
    by_cases h2 : k = i
    · subst h2; simp [hi]
    · rw [if_neg h2, List.getElem?_set_ne (fun e => h2 e.symm)]
theorem count_set (a : Item) : ∀ (l : List Item) (i : Nat) (x : Item), i < l.length → (l.set i x).count a + (if el l i = a then 1 else 0) = l.count a + (if x = a then 1 else 0)
  | [], i, x, h => by simp at h
  | y :: l, 0, x, _ => by simp [List.count_cons, el]; split <;> split <;> simp_all <;> omega
  | y :: l, i + 1, x, h => by
    have := count_set a l i x (by simpa using h)
    simp only [List.set_cons_succ, List.count_cons]
    have e : el (y :: l) (i + 1) = el l i := by simp [el]
    rw [e]; omega
theorem perm_swp {l : List Item} {i j : Nat} (hi : i < l.length) (hj : j < l.length) : (swp l i j).Perm l := by
  rw [List.perm_iff_count]
  intro a
  have h1 := count_set a l i (el l j) hi
  have h2 := count_set a (l.set i (el l j)) j (el l i) (by simpa using hj)
  have h3 : el (l.set i (el l j)) j = el l j := by
    by_cases h : i = j
    · subst h; unfold el; simp [hi]
    · unfold el; simp only [List.getD_eq_getElem?_getD]; rw [List.getElem?_set_ne h]
  rw [h3] at h2
  unfold swp
  omega

/-- A heap but for the element at i, which may be less than what is above it. -/
def HUp (l : List Item) (i : Nat) : Prop := (∀ j, 0 < j → j < l.length → j ≠ i → ¬ (el l j).Lt (el l ((j - 1) / 2))) ∧ (∀ j, 0 < j → j < l.length → (j - 1) / 2 = i → 0 < i → ¬ (el l j).Lt (el l ((i - 1) / 2)))
def Heap (l : List Item) : Prop := ∀ j, 0 < j → j < l.length → ¬ (el l j).Lt (el l ((j - 1) / 2))
/-- A heap but for the element at i, which may be greater than those below it. -/
def HDn (l : List Item) (i : Nat) : Prop := (∀ j, 0 < j → j < l.length → (j - 1) / 2 ≠ i → ¬ (el l j).Lt (el l ((j - 1) / 2))) ∧ (∀ j, 0 < j → j < l.length → (j - 1) / 2 = i → 0 < i → ¬ (el l j).Lt (el l ((i - 1) / 2)))

theorem Heap.push {l : List Item} (h : Heap l) (x : Item) : HUp (l ++ [x]) l.length := by
  have e : ∀ k, k < l.length → el (l ++ [x]) k = el l k := fun k hk => by unfold el; simp only [List.getD_eq_getElem?_getD]; rw [List.getElem?_append_left hk]
  constructor
  · intro j h0 hj hne
    simp at hj
    rw [e j (by omega), e _ (by omega)]
    exact h j h0 (by omega)
  · intro j h0 hj hp _
    simp at hj; omega
theorem HUp.done {l : List Item} {i : Nat} (h : HUp l i) (hs : i = 0 ∨ ¬ (el l i).Lt (el l ((i - 1) / 2))) : Heap l := by
  intro j h0 hj
  by_cases hji : j = i
  · subst hji
    rcases hs with hs | hs
    · omega
    · exact hs
  · exact h.1 j h0 hj hji
theorem HUp.step {l : List Item} {i : Nat} (h : HUp l i) (h0 : 0 < i) (hi : i < l.length) (hlt : (el l i).Lt (el l ((i - 1) / 2))) : HUp (swp l i ((i - 1) / 2)) ((i - 1) / 2) := by
  have hup : (i - 1) / 2 < l.length := by omega
  have hne : (i - 1) / 2 ≠ i := by omega
  constructor
  · intro j j0 hj hjn
    rw [len_swp] at hj
    rw [el_swp hi hup, el_swp hi hup, if_neg hjn]
    by_cases hji : j = i
    · subst hji
      rw [if_pos rfl, if_pos rfl]
      unfold Item.Lt at *; omega
    · rw [if_neg hji]
      by_cases hp : (j - 1) / 2 = (i - 1) / 2
      · rw [if_pos hp]
        have := h.1 j j0 hj hji
        rw [hp] at this
        unfold Item.Lt at *; omega
      · rw [if_neg hp]
        by_cases hp2 : (j - 1) / 2 = i
        · rw [if_pos hp2]; exact h.2 j j0 hj hp2 h0
        · rw [if_neg hp2]; exact h.1 j j0 hj hji
  · intro j j0 hj hp hu0
    rw [len_swp] at hj
    have hup2 : ((i - 1) / 2 - 1) / 2 ≠ (i - 1) / 2 := by omega
    have hup3 : ((i - 1) / 2 - 1) / 2 ≠ i := by omega
    rw [el_swp hi hup, el_swp hi hup, if_neg hup2, if_neg hup3, if_neg (by omega)]
    have hu := h.1 ((i - 1) / 2) hu0 hup hne
    by_cases hji : j = i
    · rw [if_pos hji]; exact hu
    · rw [if_neg hji]
      have := h.1 j j0 hj hji
      rw [hp] at this
      unfold Item.Lt at *; omega

/-- The least is at the head. -/
theorem Heap.head {l : List Item} (h : Heap l) : ∀ i, i < l.length → ¬ (el l i).Lt (el l 0) := by
  intro i
  induction i using Nat.strongRecOn with
  | _ i ih =>
    intro hi
    by_cases h0 : i = 0
    · subst h0; unfold Item.Lt; omega
    · have h1 := h i (by omega) hi
      have h2 := ih ((i - 1) / 2) (by omega) (by omega)
      unfold Item.Lt at *; omega

theorem HDn.done {l : List Item} {i : Nat} (h : HDn l i) (hs : ∀ j, 0 < j → j < l.length → (j - 1) / 2 = i → ¬ (el l j).Lt (el l i)) : Heap l := by
  intro j h0 hj
  by_cases hji : (j - 1) / 2 = i
  · rw [hji]; exact hs j h0 hj hji
  · exact h.1 j h0 hj hji
/-- k: the less one of those below i. -/
theorem HDn.step {l : List Item} {i k : Nat} (h : HDn l i) (hk : k < l.length) (hk0 : 0 < k) (hki : (k - 1) / 2 = i) (hlt : (el l k).Lt (el l i)) (hmin : ∀ j, 0 < j → j < l.length → (j - 1) / 2 = i → ¬ (el l j).Lt (el l k)) : HDn (swp l i k) k := by
  have hi : i < l.length := by omega
  have hik : i ≠ k := by omega
  constructor
  · intro j j0 hj hjn
    rw [len_swp] at hj
    rw [el_swp hi hk, el_swp hi hk, if_neg hjn]
    by_cases hp : (j - 1) / 2 = i
    · rw [if_pos hp]
      by_cases hjk : j = k
      · subst hjk; rw [if_pos rfl]; unfold Item.Lt at *; omega
      · rw [if_neg hjk, if_neg (by omega)]; exact hmin j j0 hj hp
    · rw [if_neg hp]
      by_cases hjk : j = k
      · omega
      · rw [if_neg hjk]
        by_cases hji : j = i
        · rw [if_pos hji]
          subst hji
          exact h.2 k hk0 hk hki j0
        · rw [if_neg hji]; exact h.1 j j0 hj hp
  · intro j j0 hj hp hk0'
    rw [len_swp] at hj
    rw [el_swp hi hk, el_swp hi hk, if_neg (by omega), if_neg (by omega), hki, if_neg hik, if_pos rfl]
    have := h.1 j j0 hj (by omega)
    rw [hp] at this
    exact this

/-! ### The sorted list -/
def ins (x : Item) : List Item → List Item
  | [] => [x]
  | y :: r => if x.Lt y then x :: y :: r else y :: ins x r
def Srt : List Item → Prop
  | [] => True
  | y :: r => (∀ z ∈ r, ¬ z.Lt y) ∧ Srt r
theorem ins_perm (x : Item) : ∀ s, (ins x s).Perm (x :: s)
  | [] => .refl _
  | y :: r => by
    unfold ins
    split
    · exact .refl _
    · exact ((ins_perm x r).cons y).trans (.swap x y r)
theorem ins_mem {x z : Item} {s : List Item} (h : z ∈ ins x s) : z = x ∨ z ∈ s := by
  have := (ins_perm x s).mem_iff.1 h
  simpa using this
theorem Srt.ins {x : Item} : ∀ {s : List Item}, Srt s → Srt (ins x s)
  | [], _ => ⟨by simp, trivial⟩
  | y :: r, h => by
    unfold Qp.ins
    split
    · rename_i hlt
      refine ⟨fun z hz => ?_, h⟩
      rcases List.mem_cons.1 hz with rfl | hz
      · unfold Item.Lt at *; omega
      · have := h.1 z hz
        unfold Item.Lt at *; omega
    · rename_i hlt
      refine ⟨fun z hz => ?_, Srt.ins h.2⟩
      rcases ins_mem hz with rfl | hz
      · exact hlt
      · exact h.1 z hz
theorem Item.eq_of {a b : Item} (h1 : ¬ a.Lt b) (h2 : ¬ b.Lt a) : a = b := by
  obtain ⟨ak, av⟩ := a
  obtain ⟨bk, bv⟩ := b
  simp only [Item.Lt] at h1 h2
  simp only [Item.mk.injEq]
  constructor <;> omega
/-- A heap's head is the sorted list's head. -/
theorem head_eq {l s : List Item} (h : Heap l) (hs : Srt s) (hp : l.Perm s) (hne : 0 < l.length) : ∃ r, s = el l 0 :: r := by
  cases s with
  | nil => have := hp.length_eq; rw [this] at hne; simp at hne
  | cons y r =>
    have h1 : el l 0 ∈ l := by
      unfold el; rw [List.getD_eq_getElem?_getD, List.getElem?_eq_getElem hne]; exact List.getElem_mem hne
    have h2 : ¬ (el l 0).Lt y := by
      rcases List.mem_cons.1 (hp.mem_iff.1 h1) with e | e
      · rw [e]; unfold Item.Lt; omega
      · exact hs.1 _ e
    have h3 : ¬ y.Lt (el l 0) := by
      have : y ∈ l := hp.mem_iff.2 (by simp)
      obtain ⟨i, hi, e⟩ := List.getElem_of_mem this
      have := h.head i hi
      unfold el at this
      rw [List.getD_eq_getElem?_getD, List.getElem?_eq_getElem hi, Option.getD_some, e] at this
      exact this
    exact ⟨r, by rw [Item.eq_of h2 h3]⟩
/-- What is left when the last one has been put at the head and the list is one shorter. -/
theorem pop_perm {l : List Item} (hne : 0 < l.length) : (el l 0 :: ((l.set 0 (el l (l.length - 1))).take (l.length - 1))).Perm l := by
  cases l with
  | nil => simp at hne
  | cons x l =>
    rcases List.eq_nil_or_concat l with rfl | ⟨l', y, rfl⟩
    · simp [el]
    · have e : el (x :: (l' ++ [y])) ((x :: (l' ++ [y])).length - 1) = y := by
        unfold el; simp
      rw [List.concat_eq_append] at *
      rw [e]
      simp only [List.set_cons_zero, List.length_cons, List.length_append, List.length_nil, Nat.add_sub_cancel]
      rw [show l'.length + (0 + 1) = l'.length + 1 by omega, List.take_succ_cons, List.take_left]
      have : el (x :: (l' ++ [y])) 0 = x := by simp [el]
      rw [this]
      refine .cons x ?_
      exact (List.perm_append_comm (l₁ := [y]) (l₂ := l'))
theorem Heap.popStart {l : List Item} (h : Heap l) (hne : 0 < l.length) : HDn ((l.set 0 (el l (l.length - 1))).take (l.length - 1)) 0 := by
  have e : ∀ k, 0 < k → k < l.length - 1 → el ((l.set 0 (el l (l.length - 1))).take (l.length - 1)) k = el l k := fun k h0 hk => by
    unfold el
    simp only [List.getD_eq_getElem?_getD, List.getElem?_take, if_pos hk]
    rw [List.getElem?_set_ne (by omega)]
  constructor
  · intro j j0 hj hp
    simp at hj
    rw [e j j0 (by omega), e _ (by omega) (by omega)]
    exact h j j0 (by omega)
  · intro j _ _ _ h0; omega
end Qp
end Go.Proofs.Ytacpdjccbadomaa
