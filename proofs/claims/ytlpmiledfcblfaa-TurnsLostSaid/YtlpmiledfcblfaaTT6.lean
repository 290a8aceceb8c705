/-
  TurnsLost, as a pure function, is true. For arguments that are Go's.
-/
import Derived.Test.YtlpmiledfcblfaaTT0
import Derived.Test.YtlpmiledfcblfaaTG6
set_option linter.unusedVariables false
set_option linter.unusedSimpArgs false
namespace Go.Proofs.Ytlpmiledfcblfaa
open Go.Vg Go.Lib
theorem filter_len (q : Inp → Bool) : ∀ l : List Inp, (l.filter q).length + (l.filter fun i => !q i).length = l.length
  | [] => rfl
  | a :: l => by
    have := filter_len q l
    cases hq : q a <;> simp [hq] <;> omega
theorem lost_law {p : Ask27} (h : p.Wf) : thronglaw27_TurnsLost p = some true := by
  unfold thronglaw27_TurnsLost
  obtain ⟨b, e, hb⟩ := heavy_p h
  rw [e, bsome]
  cases b with
  | true => rw [if_pos rfl]
  | false =>
    obtain ⟨⟨hl, hl8, hlc⟩, ⟨hm, hm8, hmc⟩, ht⟩ := hb rfl
    rw [if_neg (by simp)]
    refine Ok.eq (Ok.bind (R := fun x : Ex (Int × List Inp) Bool => match x with | .up _ => False | .go y => ListOk y.2 ∧ InpsS y.2 ∧ (y.2.length : Int) = y.1 ∧ y.1 ≤ 20 ∧ ∀ z ∈ y.2, ∃ j, 0 ≤ j ∧ j < min (p.more.length : Int) 20 ∧ z.turn = (gi p.more j).turn)
      (Ok.loop (fun z : List Inp × Int × Int => (0 ≤ z.2.2 ∧ z.2.2 ≤ min (p.more.length : Int) 20) ∧ ListOk z.1 ∧ InpsS z.1 ∧ (z.1.length : Int) = z.2.1 ∧ z.2.1 ≤ z.2.2 ∧ ∀ y ∈ z.1, ∃ j, 0 ≤ j ∧ j < z.2.2 ∧ y.turn = (gi p.more j).turn) (fun z => (20 - z.2.2).toNat) ⟨by simp; omega, fun v v0 v1 => by simp at v1; omega, ⟨by simp, fun i hi => by simp at hi⟩, rfl, by simp, fun y hy => by simp at hy⟩ (by unfold FUEL; simp) ?_) ?_)
    · rintro ⟨l, n, v⟩ ⟨⟨v0, v1⟩, hlo, hS, hn, hnv, hy⟩
      dsimp only at v0 v1 hlo hS hn hnv hy ⊢
      refine Ok.ite (fun hlt => ?_) (fun hlt => Ok.ret ⟨hlo, hS, hn, by show n ≤ 20; omega, fun z hz => ?_⟩)
      · have hx := hm.2 _ (gi_mem (xs := p.more) (j := v) ⟨v0, hlt.1⟩)
        have hput := put_p hS hx
        refine Ok.gd ⟨v0, hlt.1⟩ ?_
        by_cases ho : InpOk (gi p.more v)
        · by_cases hh : Has l (gi p.more v)
          · rw [hput.2.1 ⟨hlo, ho⟩ hh, bsome, num27_p, bsome, if_pos (by decide)]
            exact Ok.gd (by unfold I64; omega) (Ok.ret ⟨⟨⟨by show 0 ≤ v + 1; omega, by show v + 1 ≤ _; omega⟩, hlo, hS, hn, by show n ≤ v + 1; omega, fun y hyy => by
              obtain ⟨j, j0, j1, e⟩ := hy y hyy
              exact ⟨j, j0, by show j < v + 1; omega, e⟩⟩, by show (20 - (v + 1)).toNat < _; omega⟩)
          · rw [hput.2.2 ⟨hlo, ho⟩ hh, bsome, num27_p, bsome]
            have hS2 := insI_S hS (by omega) hx
            have hlk := ListOk.iff.1 hlo
            have hlo2 : ListOk (insI l (gi p.more v)) := ListOk.iff.2 ⟨fun x hxx => by
              rcases List.mem_cons.1 ((insI_perm _ _).mem_iff.1 hxx) with rfl | hxx
              · exact ho
              · exact hlk.1 x hxx, insI_pair hlk.2 hh⟩
            have hh2 : Has (insI l (gi p.more v)) (gi p.more v) := ⟨_, (insI_perm _ _).mem_iff.2 (by simp), rfl, rfl⟩
            refine Ok.ite (fun hc => absurd rfl hc) (fun _ => Ok.gd ⟨v0, hlt.1⟩ ?_)
            rw [(put_p hS2 hx).2.1 ⟨hlo2, ho⟩ hh2, bsome, num27_p, bsome]
            have hil := insI_len l (gi p.more v)
            refine Ok.gd (fun _ => by unfold I64; omega) (Ok.ite (fun hc => ?_) (fun _ => Ok.gd (by unfold I64; omega) (Ok.gd (by unfold I64; omega) (Ok.ret ⟨⟨⟨by show 0 ≤ v + 1; omega, by show v + 1 ≤ _; omega⟩, hlo2, hS2, by show ((insI l (gi p.more v)).length : Int) = n + 1; omega, by show n + 1 ≤ v + 1; omega, fun y hyy => ?_⟩, by show (20 - (v + 1)).toNat < (20 - v).toNat; omega⟩))))
            · exfalso
              rcases hc with hc | hc
              · exact hc rfl
              · apply hc; show ((insI l (gi p.more v)).length : Int) = _; omega
            · rcases List.mem_cons.1 ((insI_perm _ _).mem_iff.1 hyy) with rfl | hyy
              · exact ⟨v, v0, by show v < v + 1; omega, rfl⟩
              · obtain ⟨j, j0, j1, e⟩ := hy y hyy
                exact ⟨j, j0, by show j < v + 1; omega, e⟩
        · rw [hput.1 (fun hc => ho hc.2), bsome, num27_p, bsome, if_pos (by decide)]
          exact Ok.gd (by unfold I64; omega) (Ok.ret ⟨⟨⟨by show 0 ≤ v + 1; omega, by show v + 1 ≤ _; omega⟩, hlo, hS, hn, by show n ≤ v + 1; omega, fun y hyy => by
            obtain ⟨j, j0, j1, e⟩ := hy y hyy
            exact ⟨j, j0, by show j < v + 1; omega, e⟩⟩, by show (20 - (v + 1)).toNat < _; omega⟩)
      · obtain ⟨j, j0, j1, e⟩ := hy z hz
        exact ⟨j, j0, by omega, e⟩
    · rintro (⟨n, l⟩ | _) hx
      · obtain ⟨hlo, hS, hn, hn20, hy⟩ := hx
        dsimp only [Ex.then] at hlo hS hn hn20 hy ⊢
        refine Ok.bind (R := fun x : Ex (Int × List Inp) Bool => match x with | .up _ => False | .go y => y.1 = 0 ∧ y.2 = [])
          (Ok.loop (fun z : Int × Int × List Inp => (0 ≤ z.2.1 ∧ z.2.1 ≤ min (p.more.length : Int) 20) ∧ ListOk z.2.2 ∧ InpsS z.2.2 ∧ ((z.2.2.length : Int) = z.1 ∧ z.1 ≤ 20) ∧ ∀ y ∈ z.2.2, ∃ j, z.2.1 ≤ j ∧ j < min (p.more.length : Int) 20 ∧ y.turn = (gi p.more j).turn) (fun z => (20 - z.2.1).toNat) ⟨by simp; omega, hlo, hS, ⟨hn, hn20⟩, hy⟩ (by unfold FUEL; simp) ?_) ?_
        · clear hlo hS hn hn20 hy
          rintro ⟨n, v, l⟩ ⟨⟨v0, v1⟩, hlo, hS, ⟨hn, hn20⟩, hy⟩
          dsimp only at v0 v1 hlo hS hn hn20 hy ⊢
          refine Ok.ite (fun hlt => Ok.gd ⟨v0, hlt.1⟩ ?_) (fun hlt => Ok.ret ?_)
          · obtain ⟨t, ht⟩ : ∃ t, t = (gi p.more v).turn := ⟨_, rfl⟩
            have e2 : turns_Take l t = some (l.filter (fun i => decide (i.turn = t)), l.filter (fun i => !decide (i.turn = t)), 0) := by
              unfold turns_Take
              rw [(rising_b hS).t hlo, bsome, if_neg (by simp), part_p hS, bsome]
            have hfl := filter_len (fun i => decide (i.turn = t)) l
            have hlk := ListOk.iff.1 hlo
            rw [← ht, e2, bsome]
            dsimp only
            rw [num27_p, bsome]
            refine Ok.gd (fun _ => by unfold I64; omega) (Ok.ite (fun hc => ?_) (fun _ => ?_))
            · exfalso
              rcases hc with hc | hc
              · exact hc rfl
              · apply hc; omega
            · refine Ok.bind (scanOk (a := 0) (n := (l.filter (fun i => decide (i.turn = t))).length) (fun _ => True) (fun _ => False) (by omega) (fun u u0 u1 _ => ?_) (fun u u0 u1 => by rw [if_neg (by omega)])) ?_
              · rw [if_pos u1]
                refine Ok.gd ⟨u0, u1⟩ (Ok.gd ⟨v0, hlt.1⟩ (Ok.ite (fun hc => ?_) (fun _ => Ok.gd (by unfold I64; omega) (Ok.ret ⟨rfl, trivial⟩))))
                exfalso
                have := (List.mem_filter.1 (gi_mem (xs := l.filter fun i => decide (i.turn = t)) (j := u) ⟨u0, u1⟩)).2
                exact hc (by simpa using this)
              · rintro (_ | _) hx
                · dsimp only [Ex.then]
                  refine Ok.gd (by unfold I64; omega) (Ok.gd (by unfold I64; omega) (Ok.ret ⟨⟨⟨by show 0 ≤ v + 1; omega, by show v + 1 ≤ _; omega⟩, ListOk.iff.2 ⟨fun x hx => hlk.1 x (List.mem_filter.1 hx).1, hlk.2.sublist List.filter_sublist⟩, ⟨Nat.le_trans (List.length_filter_le _ _) hS.1, fun i hi => hS.2 i (List.mem_filter.1 hi).1⟩, ⟨by show ((l.filter fun i => !decide (i.turn = t)).length : Int) = n - _; omega, by show n - _ ≤ 20; omega⟩, fun y hyy => ?_⟩, by show (20 - (v + 1)).toNat < (20 - v).toNat; omega⟩))
                  have hmf := List.mem_filter.1 hyy
                  obtain ⟨j, j0, j1, e⟩ := hy y hmf.1
                  have hne : ¬ y.turn = t := by simpa using hmf.2
                  have hjv : j ≠ v := fun e2 => by subst e2; exact hne (by rw [e, ht])
                  exact ⟨j, by show v + 1 ≤ j; omega, j1, e⟩
                · exact hx.elim
          · have hle : l = [] := by
              cases l with
              | nil => rfl
              | cons y l =>
                obtain ⟨j, j0, j1, _⟩ := hy y (by simp)
                omega
            subst hle
            exact ⟨by show n = 0; simpa using hn.symm, rfl⟩
        · rintro (⟨n2, l2⟩ | _) hx
          · obtain ⟨h5, h6⟩ := hx
            dsimp only at h5 h6
            subst h5; subst h6
            dsimp only [Ex.then]
            refine Ok.bindE (x := true) ?_ (Ok.bindE (x := true) ?_ (Ok.ret rfl))
            · rw [if_pos ⟨rfl, rfl⟩, eqIs_p ⟨by simp, fun i hi => by simp at hi⟩, bsome]; simp
            · rw [if_pos rfl, wakes27_p]; rfl
          · exact hx.elim
      · exact hx.elim
end Go.Proofs.Ytlpmiledfcblfaa
