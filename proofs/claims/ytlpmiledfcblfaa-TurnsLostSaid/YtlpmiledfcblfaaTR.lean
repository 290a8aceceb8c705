/-
  All commands of a turn, in order: the program's Merge and the page's, as pure functions. The conditions stand in each lemma.
-/
import Derived.Test.YtlpmiledfcblfaaTQ
set_option linter.unusedVariables false
set_option linter.unusedSimpArgs false
namespace Go.Proofs.Ytlpmiledfcblfaa
open Go.Vg Go.Lib
theorem InpsS.perm {l l' : List Inp} (h : InpsS l) (hp : l'.Perm l) : InpsS l' := ⟨by rw [hp.length_eq]; exact h.1, fun x hx => h.2 x (hp.mem_iff.1 hx)⟩
/-- Two lists of the same, both rising. -/
theorem rise_uniq : ∀ {x y : List Inp}, x.Perm y → x.Pairwise InLt → y.Pairwise InLt → x = y
  | [], y, hp, _, _ => (List.nil_perm.1 hp).symm
  | a :: x, [], hp, _, _ => by have := hp.length_eq; simp at this
  | a :: x, b :: y, hp, hx, hy => by
    have hx' := List.pairwise_cons.1 hx
    have hy' := List.pairwise_cons.1 hy
    have hab : a = b := by
      have h1 : a ∈ b :: y := hp.mem_iff.1 (by simp)
      have h2 : b ∈ a :: x := hp.mem_iff.2 (by simp)
      rcases List.mem_cons.1 h1 with h1 | h1
      · exact h1
      · rcases List.mem_cons.1 h2 with h2 | h2
        · exact h2.symm
        · have h3 := hy'.1 a h1
          have h4 := hx'.1 b h2
          exact absurd (h3.trans h4) (InLt.irr _)
    subst hab
    rw [rise_uniq (List.Perm.cons_inv hp) hx'.2 hy'.2]
/-- No two of one turn and player. -/
def KD (l : List Inp) : Prop := l.Pairwise fun a b => ¬ (a.turn = b.turn ∧ a.player = b.player)
theorem KD.perm {l l' : List Inp} (h : l.Perm l') : KD l ↔ KD l' := List.Perm.pairwise_iff (fun {x y} hxy hc => hxy ⟨hc.1.symm, hc.2.symm⟩) h
theorem KD.of {l : List Inp} (h : l.Pairwise InLt) : KD l := h.imp fun {a b} hab hc => by unfold InLt at hab; omega
theorem rise_of {l : List Inp} (h : SortedI l) (hk : KD l) : l.Pairwise InLt := by
  refine List.Pairwise.imp ?_ (List.Pairwise.and h hk)
  rintro a b ⟨h1, h2⟩
  unfold InLt at *
  omega
theorem sorted_canon (a : List Inp) : SortedI (a.mergeSort leI) := by
  have := List.pairwise_mergeSort (le := leI) (fun x y z h1 h2 => by unfold leI at *; simp only [Bool.not_eq_true', decide_eq_false_iff_not] at *; unfold InLt at *; omega) (fun x y => by
    unfold leI
    by_cases h : InLt y x
    · have : ¬ InLt x y := fun h2 => InLt.irr _ (h.trans h2)
      simp [this]
    · simp [h]) a
  refine this.imp fun {x y} h => ?_
  unfold leI at h
  simpa using h
theorem rest_no {a y : List Inp} (h : InpsS y) (hn : ¬ ListOk y) : turns_Merge_rest a y = some ([], 1) := by
  unfold turns_Merge_rest
  rw [(rising_b h).f hn, bsome]
  exact Ok.eq (Ok.gd (fun h => absurd rfl h) (Ok.gd (fun h => absurd rfl h) (Ok.gd (fun h => absurd rfl h) (Ok.ite (fun _ => Ok.ret rfl) (fun h => absurd (.inl rfl) h)))))
theorem turns_Merge_rest_inv {a x y : List Inp} (hx : slices_SortFuncI a = some x) (hy : y.Perm a ∧ SortedI y) {r : List Cmd × Int} (H : turns_Merge_rest a x = some r) : turns_Merge_rest a y = some r := by
  unfold slices_SortFuncI at hx
  obtain ⟨hS, hx⟩ := gdE hx
  obtain rfl := Option.some.inj hx
  have hp := List.mergeSort_perm a leI
  have hs := sorted_canon a
  have hSx := hS.perm hp
  have hSy := hS.perm hy.1
  have hxy : y.Perm (a.mergeSort leI) := hy.1.trans hp.symm
  by_cases h : ListOk (a.mergeSort leI)
  · have h1 := (ListOk.iff.1 h).2
    have h2 := rise_of hy.2 ((KD.perm hxy).2 (KD.of h1))
    rw [rise_uniq hxy h2 h1]; exact H
  · have h' : ¬ ListOk y := fun hc => by
      have h1 := (ListOk.iff.1 hc).2
      have h2 := rise_of hs ((KD.perm hxy).1 (KD.of h1))
      rw [rise_uniq hxy h1 h2] at hc
      exact h hc
    rw [rest_no hSx h] at H
    rw [rest_no hSy h']; exact H
theorem all_p {l : List Inp} (h : InpsS l) : turns_All l = some (l.flatMap (·.commands)) := by
  have hl := h.1
  unfold turns_All
  refine Ok.eq (Ok.bind (R := fun x => x = l.flatMap (·.commands)) (Ok.loop (fun z : List Cmd × Int => (0 ≤ z.2 ∧ z.2 ≤ l.length) ∧ z.1 = (l.take z.2.toNat).flatMap (·.commands) ∧ (z.1.length : Int) ≤ 1000000 * z.2) (fun z => (l.length - z.2).toNat) ⟨by simp, by simp, by simp⟩ (by unfold FUEL; simp; omega) ?_) (fun x hx => Ok.ret hx))
  rintro ⟨a, v⟩ ⟨⟨v0, v1⟩, ha, hb⟩
  dsimp only at v0 v1 ha hb ⊢
  refine Ok.ite (fun hlt => Ok.gd ⟨v0, hlt⟩ ?_) (fun hlt => Ok.ret ?_)
  · have hI := h.2 _ (gi_mem ⟨v0, hlt⟩)
    have hI1 := hI.1
    rw [ownCs_p hI.1 hI.2, bsome]
    refine Ok.gd (by omega) (Ok.gd (by unfold I64; omega) (Ok.ret ⟨⟨⟨by show 0 ≤ v + 1; omega, by show v + 1 ≤ _; omega⟩, ?_, ?_⟩, by show (l.length - (v + 1)).toNat < _; omega⟩))
    · show _ = (l.take (v + 1).toNat).flatMap _
      rw [take_nextV ⟨v0, hlt⟩, List.flatMap_append, ← ha]; simp
    · show ((a ++ _).length : Int) ≤ 1000000 * (v + 1)
      rw [List.length_append]; omega
  · have : v = l.length := by omega
    subst this
    rw [ha]; simp
/-- What may be merged. -/
def MOk (l : List Inp) : Prop := (∀ x ∈ l, InpOk x ∧ ∀ y ∈ l, x.turn = y.turn) ∧ KD l
theorem MOk.perm {l l' : List Inp} (h : l.Perm l') : MOk l ↔ MOk l' := by
  unfold MOk
  rw [KD.perm h]
  constructor
  · rintro ⟨h1, h2⟩; exact ⟨fun x hx => ⟨(h1 x (h.mem_iff.2 hx)).1, fun y hy => (h1 x (h.mem_iff.2 hx)).2 y (h.mem_iff.2 hy)⟩, h2⟩
  · rintro ⟨h1, h2⟩; exact ⟨fun x hx => ⟨(h1 x (h.mem_iff.1 hx)).1, fun y hy => (h1 x (h.mem_iff.1 hx)).2 y (h.mem_iff.1 hy)⟩, h2⟩
theorem merge_p {l : List Inp} (h : InpsS l) : Ok (turns_Merge l) fun r => (¬ MOk l → r = ([], 1)) ∧ (MOk l → ∃ s : List Inp, s.Perm l ∧ s.Pairwise InLt ∧ r = (s.flatMap (·.commands), 0)) := by
  have hl := h.1
  unfold turns_Merge slices_CloneI slices_SortFuncI
  rw [if_pos (by omega), bsome, if_pos h, bsome]
  obtain ⟨y, hy⟩ : ∃ y, y = l.mergeSort leI := ⟨_, rfl⟩
  have hp : y.Perm l := by rw [hy]; exact List.mergeSort_perm l leI
  have hs : SortedI y := by rw [hy]; exact sorted_canon l
  rw [← hy]
  have hyl := hp.length_eq
  have hSy := h.perm hp
  by_cases hm : MOk l
  · have hmy := (MOk.perm hp).2 hm
    have hr := rise_of hs hmy.2
    have hlo : ListOk y := ListOk.iff.2 ⟨fun x hx => (hmy.1 x hx).1, hr⟩
    unfold turns_Merge_rest
    rw [(rising_b hSy).t hlo, bsome]
    refine Ok.gd (fun _ _ => by omega) (Ok.gd (fun _ _ => by unfold I64; omega) (Ok.gd (fun _ _ => by omega) (Ok.ite (fun hc => ?_) (fun hc => ?_))))
    · exfalso
      rcases hc with hc | hc
      · simp at hc
      · exact hc.2 ((hmy.1 _ (gi_mem ⟨by omega, by omega⟩)).2 _ (gi_mem ⟨by omega, by omega⟩))
    · rw [all_p hSy, bsome]
      exact Ok.ret ⟨fun hn => absurd hm hn, fun _ => ⟨y, hp, hr, rfl⟩⟩
  · by_cases hlo : ListOk y
    · have hr := (ListOk.iff.1 hlo).2
      unfold turns_Merge_rest
      rw [(rising_b hSy).t hlo, bsome]
      refine Ok.gd (fun _ _ => by omega) (Ok.gd (fun _ _ => by unfold I64; omega) (Ok.gd (fun _ _ => by omega) (Ok.ite (fun hc => Ok.ret ⟨fun _ => rfl, fun h => absurd h hm⟩) (fun hc => ?_))))
      exfalso
      apply hm
      rw [← MOk.perm hp]
      have hmono : ∀ i j : Int, 0 ≤ i → i ≤ j → j < y.length → (gi y i).turn ≤ (gi y j).turn := fun i j h0 hij hj => by
        by_cases e : i = j
        · subst e; omega
        · have := ListOk.lt hr h0 (by omega : i < j) hj
          unfold InLt at this; omega
      have hsame : ∀ x ∈ y, x.turn = (gi y 0).turn := fun x hx => by
        obtain ⟨i, h0, h1, rfl⟩ := gi_mem2.1 hx
        have h2 := hmono 0 i (by omega) h0 h1
        have h3 := hmono i (l.length - 1) h0 (by omega) (by omega)
        have h4 : (gi y 0).turn = (gi y ((l.length : Int) - 1)).turn := Classical.byContradiction fun hne => hc (.inr ⟨by omega, hne⟩)
        omega
      exact ⟨fun x hx => ⟨(ListOk.iff.1 hlo).1 x hx, fun z hz => by rw [hsame x hx, hsame z hz]⟩, KD.of hr⟩
    · rw [rest_no hSy hlo]
      exact Ok.ret ⟨fun _ => rfl, fun h => absurd h hm⟩
theorem mergeR_p {l : List Inp} (h : InpsS l) (hl8 : l.length < 1000000) : Ok (throngref27_Merge l) fun r => (¬ MOk l → r = ([], false)) ∧ (MOk l → ∃ s : List Inp, s.Perm l ∧ s.Pairwise InLt ∧ r = (s.flatMap (·.commands), true)) := by
  have hl := h.1
  unfold throngref27_Merge
  refine Ok.bind (R := fun x : Ex (List Inp) (List Cmd × Bool) => match x with | .up r => r = ([], false) ∧ ¬ MOk l | .go s => s.Perm l ∧ s.Pairwise InLt ∧ MOk l)
    (Ok.loop (fun z : List Inp × Int => (0 ≤ z.2 ∧ z.2 ≤ l.length) ∧ z.1.Perm (l.take z.2.toNat) ∧ z.1.Pairwise InLt ∧ ∀ x ∈ z.1, InpOk x ∧ x.turn = (gi l 0).turn) (fun z => (l.length - z.2).toNat) ⟨by simp, by simp, by simp, fun x hx => by simp at hx⟩ (by unfold FUEL; simp; omega) ?_) ?_
  · rintro ⟨s, v⟩ ⟨⟨v0, v1⟩, hp, hs, hx⟩
    dsimp only at v0 v1 hp hs hx ⊢
    refine Ok.ite (fun hlt => ?_) (fun hlt => Ok.ret ?_)
    · have hm := gi_mem (xs := l) (j := v) ⟨v0, hlt⟩
      have hm0 := gi_mem (xs := l) (j := 0) ⟨by omega, by omega⟩
      obtain ⟨b, e, hb⟩ := mayR_b (h.2 _ hm)
      refine Ok.gd ⟨v0, hlt⟩ (Ok.bindE e (Ok.gd (fun _ => ⟨v0, hlt⟩) (Ok.gd (fun _ => by omega) (Ok.ite (fun hc => Ok.ret ⟨rfl, fun hmo => ?_⟩) (fun hc => Ok.gd ⟨v0, hlt⟩ ?_)))))
      · rcases hc with hc | hc
        · rw [hb.2 (hmo.1 _ hm).1] at hc; simp at hc
        · exact hc ((hmo.1 _ hm).2 _ hm0)
      · have hin : InpOk (gi l v) := hb.1 (by
          cases hbb : b with
          | true => rfl
          | false => exact absurd (.inl (by rw [hbb]; rfl)) hc)
        have htu : (gi l v).turn = (gi l 0).turn := Classical.byContradiction fun h => hc (.inr h)
        have hSs : InpsS s := (h.take v.toNat).perm hp
        have hsl := hp.length_eq
        rw [List.length_take] at hsl
        by_cases hh : Has s (gi l v)
        · rw [(putR_p hSs (h.2 _ hm) hs).1 hh, bsome]
          refine Ok.ite (fun _ => Ok.ret ⟨rfl, fun hmo => ?_⟩) (fun hn => absurd (show ¬ (12 : Int) = 0 by decide) hn)
          obtain ⟨y, hy, hk⟩ := hh
          have hyt := hp.mem_iff.1 hy
          obtain ⟨j, j0, j1, rfl⟩ := gi_mem2.1 hyt
          rw [List.length_take] at j1
          have ej : gi (l.take v.toNat) j = gi l j := by
            unfold gi
            rw [List.getD_eq_getElem?_getD, List.getD_eq_getElem?_getD, List.getElem?_take_of_lt (by omega)]
          rw [ej] at hk
          have hkd := hmo.2
          unfold KD at hkd
          rw [List.pairwise_iff_getElem] at hkd
          have hj' : j.toNat < l.length := by omega
          have hv' : v.toNat < l.length := by omega
          have := hkd _ _ hj' hv' (by omega)
          have e1 : gi l j = l[j.toNat] := by unfold gi; rw [List.getD_eq_getElem?_getD, List.getElem?_eq_getElem hj']; rfl
          have e2 : gi l v = l[v.toNat] := by unfold gi; rw [List.getD_eq_getElem?_getD, List.getElem?_eq_getElem hv']; rfl
          rw [e1, e2] at hk
          exact this hk
        · rw [(putR_p hSs (h.2 _ hm) hs).2 hh, bsome]
          refine Ok.ite (fun hn => absurd rfl hn) (fun _ => Ok.gd (by unfold I64; omega) (Ok.ret ⟨⟨⟨by show 0 ≤ v + 1; omega, by show v + 1 ≤ _; omega⟩, ?_, insI_pair hs hh, fun x hxx => ?_⟩, by show (l.length - (v + 1)).toNat < _; omega⟩))
          · show (insI s (gi l v)).Perm (l.take (v + 1).toNat)
            rw [take_nextV ⟨v0, hlt⟩]
            exact (insI_perm _ _).trans ((hp.cons _).trans (List.perm_append_singleton _ _).symm)
          · rcases List.mem_cons.1 ((insI_perm _ _).mem_iff.1 hxx) with rfl | hxx
            · exact ⟨hin, htu⟩
            · exact hx x hxx
    · have hv : v = l.length := by omega
      subst hv
      rw [Int.toNat_natCast, List.take_length] at hp
      refine ⟨hp, hs, fun x hxx => ?_, (KD.perm hp).1 (KD.of hs)⟩
      have h1 := hx x (hp.mem_iff.2 hxx)
      exact ⟨h1.1, fun y hy => by rw [h1.2, (hx y (hp.mem_iff.2 hy)).2]⟩
  · rintro (s | r) hr
    · obtain ⟨hp, hs, hmo⟩ := hr
      dsimp only [Ex.then]
      have hSs := h.perm hp
      have hl2 := hSs.1
      refine Ok.bind (R := fun x => x = s.flatMap (·.commands)) (Ok.loop (fun z : List Cmd × Int => (0 ≤ z.2 ∧ z.2 ≤ s.length) ∧ z.1 = (s.take z.2.toNat).flatMap (·.commands) ∧ (z.1.length : Int) ≤ 1000000 * z.2) (fun z => (s.length - z.2).toNat) ⟨by simp, by simp, by simp⟩ (by unfold FUEL; simp; omega) ?_) (fun x hx => Ok.ret ⟨fun hn => absurd hmo hn, fun _ => ⟨s, hp, hs, by rw [hx]⟩⟩)
      rintro ⟨a, v⟩ ⟨⟨v0, v1⟩, ha, hb⟩
      dsimp only at v0 v1 ha hb ⊢
      refine Ok.ite (fun hlt => Ok.gd ⟨v0, hlt⟩ ?_) (fun hlt => Ok.ret ?_)
      · have hI := hSs.2 _ (gi_mem ⟨v0, hlt⟩)
        have hI1 := hI.1
        rw [copyCs_p hI.1 hI.2, bsome]
        refine Ok.gd (by omega) (Ok.gd (by unfold I64; omega) (Ok.ret ⟨⟨⟨by show 0 ≤ v + 1; omega, by show v + 1 ≤ _; omega⟩, ?_, ?_⟩, by show (s.length - (v + 1)).toNat < _; omega⟩))
        · show _ = (s.take (v + 1).toNat).flatMap _
          rw [take_nextV ⟨v0, hlt⟩, List.flatMap_append, ← ha]; simp
        · show ((a ++ _).length : Int) ≤ 1000000 * (v + 1)
          rw [List.length_append]; omega
      · have : v = s.length := by omega
        subst this
        rw [ha]; simp
    · dsimp only [Ex.then]
      exact Ok.ret ⟨fun _ => hr.1, fun hm => absurd hm hr.2⟩
end Go.Proofs.Ytlpmiledfcblfaa
