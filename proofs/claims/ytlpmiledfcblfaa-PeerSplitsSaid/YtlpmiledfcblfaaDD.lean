/-
  slices.DeleteFunc of inputs: what is deleted, over rows that own memory. For lists of fewer than 2^40 inputs, where the function value answers of each.
-/
import Derived.Test.YtlpmiledfcblfaaDR
set_option linter.unusedVariables false
set_option linter.unusedSimpArgs false
namespace Go.Proofs.Ytlpmiledfcblfaa
open Go.Vg
open Enc (R)
theorem raw_ix {xs : List Raw3} {p : Raw3 → Option Bool} (hl : xs.length < 1099511627776) (hp : ∀ x ∈ xs, ∃ b, p x = some b) : Ok (raw_IndexFunc xs p) (fun i => (i = -1 ∧ ∀ j : Int, 0 ≤ j → j < xs.length → p (gi xs j) = some false) ∨ (0 ≤ i ∧ i < xs.length ∧ p (gi xs i) = some true ∧ ∀ j : Int, 0 ≤ j → j < i → p (gi xs j) = some false)) := by
  unfold raw_IndexFunc
  refine Ok.bind (R := fun x => match x with | .go _ => ∀ j : Int, 0 ≤ j → j < xs.length → p (gi xs j) = some false | .up i => 0 ≤ i ∧ i < xs.length ∧ p (gi xs i) = some true ∧ ∀ j : Int, 0 ≤ j → j < i → p (gi xs j) = some false) (Ok.loop (fun i : Int => 0 ≤ i ∧ i ≤ xs.length ∧ ∀ j : Int, 0 ≤ j → j < i → p (gi xs j) = some false) (fun i => (xs.length - i).toNat) ⟨by omega, by omega, fun j h0 h1 => by omega⟩ (by unfold FUEL; omega) ?_) ?_
  · rintro i ⟨h0, h1, hq⟩
    refine Ok.ite (fun hlt => Ok.gd ⟨h0, hlt⟩ ?_) (fun hlt => Ok.ret ?_)
    · obtain ⟨b, hb⟩ := hp _ (gi_mem ⟨h0, hlt⟩)
      refine Ok.bindE hb (Ok.ite (fun hbt => Ok.ret ?_) (fun hbt => Ok.gd (by unfold I64; omega) (Ok.ret ?_)))
      · exact ⟨h0, hlt, by rw [hb, hbt], hq⟩
      · refine ⟨⟨by omega, by omega, fun j j0 j1 => ?_⟩, by omega⟩
        by_cases hj : j = i
        · subst hj; rw [hb]; cases b <;> simp_all
        · exact hq j j0 (by omega)
    · exact fun j j0 j1 => hq j j0 (by omega)
  · rintro (_ | i) hx
    · exact Ok.ret (.inl ⟨rfl, hx⟩)
    · exact Ok.ret (.inr hx)
theorem set_take {α : Type} {ys : List α} {m : Nat} {x : α} (h : m < ys.length) : (ys.set m x).take (m + 1) = ys.take m ++ [x] := by
  rw [List.take_succ_eq_append_getElem (by simpa using h), List.take_set_of_le (Nat.le_refl _)]
  simp
theorem raw_del {xs : List Raw3} {p : Raw3 → Option Bool} (hl : xs.length < 1099511627776) (hp : ∀ x ∈ xs, ∃ b, p x = some b) : raw_DeleteFunc xs p = some (xs.filter (fun x => p x == some false)) := by
  unfold raw_DeleteFunc
  obtain ⟨i, hi, hix⟩ := raw_ix hl hp
  rw [hi, Option.bind_some]
  have allF : ∀ n : Nat, n ≤ xs.length → (∀ j : Int, 0 ≤ j → j < n → p (gi xs j) = some false) → (xs.take n).filter (fun x => p x == some false) = xs.take n := fun n hn h => by
    rw [List.filter_eq_self]
    intro x hx
    obtain ⟨j, hj, rfl⟩ := List.getElem_of_mem hx
    rw [List.length_take] at hj
    have := h j (by omega) (by omega)
    rw [List.getElem_take]
    have e : gi xs (j : Int) = xs[j]'(by omega) := by simp [gi, List.getD, List.getElem?_eq_getElem (show j < xs.length by omega)]
    rw [← e, this]; rfl
  rcases hix with ⟨rfl, hx⟩ | ⟨h0, h1, ht, hx⟩
  · rw [if_pos rfl]
    have := allF xs.length (Nat.le_refl _) (fun j j0 j1 => hx j j0 j1)
    rw [List.take_length] at this
    rw [this]
  · rw [if_neg (by omega)]
    refine Ok.eq (Ok.gd (by unfold I64; omega) (Ok.bind (R := fun z : Int × List Raw3 => 0 ≤ z.1 ∧ z.1 < xs.length ∧ z.2.take z.1.toNat = xs.filter (fun x => p x == some false)) (Ok.loop (fun z : Int × Int × List Raw3 => 0 ≤ z.1 ∧ z.1 < z.2.1 ∧ z.2.1 ≤ xs.length ∧ z.2.2.length = xs.length ∧ z.2.2.take z.1.toNat = (xs.take z.2.1.toNat).filter (fun x => p x == some false) ∧ z.2.2.drop z.2.1.toNat = xs.drop z.2.1.toNat) (fun z => (xs.length - z.2.1).toNat) ⟨h0, by show i < i + 1; omega, by show i + 1 ≤ _; omega, rfl, ?_, rfl⟩ (by unfold FUEL; dsimp only; omega) ?_) ?_))
    · show xs.take i.toNat = (xs.take (i + 1).toNat).filter _
      rw [take_nextV ⟨h0, h1⟩, List.filter_append, allF _ (by omega) (fun j j0 j1 => hx j j0 (by omega))]
      have : ([gi xs i].filter (fun x => p x == some false)) = [] := by
        rw [List.filter_cons_of_neg (by rw [ht]; decide)]; rfl
      rw [this, List.append_nil]
    · rintro ⟨k, j, ys⟩ ⟨k0, kj, jn, hy, h5, h6⟩
      dsimp only at k0 kj jn hy h5 h6 ⊢
      refine Ok.ite (fun hlt => Ok.gd ⟨by omega, hlt⟩ ?_) (fun hlt => Ok.ret ?_)
      · have hg : gi ys j = gi xs j := by
          have := congrArg (fun l => l[0]?) h6
          simp only [List.getElem?_drop, Nat.add_zero] at this
          simp [gi, List.getD, this]
        rw [hg]
        obtain ⟨b, hb⟩ := hp _ (gi_mem (xs := xs) (j := j) ⟨by omega, hlt⟩)
        have hd1 : xs.drop (j + 1).toNat = (xs.drop j.toNat).drop 1 := by rw [List.drop_drop]; congr 1; omega
        have hd2 : ∀ zs : List Raw3, zs.drop (j + 1).toNat = (zs.drop j.toNat).drop 1 := fun zs => by rw [List.drop_drop]; congr 1; omega
        refine Ok.bindE hb (Ok.ite (fun hbt => Ok.gd ⟨k0, by omega⟩ (Ok.gd (by unfold I64; omega) (Ok.gd (by unfold I64; omega) (Ok.ret ?_)))) (fun hbt => Ok.gd (by unfold I64; omega) (Ok.ret ?_)))
        · have hbf : b = false := by cases b <;> simp_all
          subst hbf
          refine ⟨⟨by show 0 ≤ k + 1; omega, by show k + 1 < j + 1; omega, by show j + 1 ≤ _; omega, by show (si ys k _).length = _; rw [len_si]; exact hy, ?_, ?_⟩, by show (xs.length - (j + 1)).toNat < (xs.length - j).toNat; omega⟩
          · show (si ys k (gi xs j)).take (k + 1).toNat = (xs.take (j + 1).toNat).filter _
            have e1 : (k + 1).toNat = k.toNat + 1 := by omega
            rw [take_nextV ⟨by omega, hlt⟩, List.filter_append, ← h5, List.filter_cons_of_pos (by rw [hb]; decide), e1]
            exact set_take (by omega)
          · show (si ys k (gi xs j)).drop (j + 1).toNat = xs.drop (j + 1).toNat
            have : (si ys k (gi xs j)).drop (j + 1).toNat = ys.drop (j + 1).toNat := List.drop_set_of_lt (by omega)
            rw [this, hd2, hd2, h6]
        · have hbf : b = true := by cases b <;> simp_all
          subst hbf
          refine ⟨⟨k0, by show k < j + 1; omega, by show j + 1 ≤ _; omega, hy, ?_, ?_⟩, by show (xs.length - (j + 1)).toNat < (xs.length - j).toNat; omega⟩
          · show ys.take k.toNat = (xs.take (j + 1).toNat).filter _
            rw [take_nextV ⟨by omega, hlt⟩, List.filter_append, ← h5, List.filter_cons_of_neg (by rw [hb]; decide)]
            simp
          · show ys.drop (j + 1).toNat = xs.drop (j + 1).toNat
            rw [hd2, hd2, h6]
      · have : j.toNat = xs.length := by omega
        rw [this, List.take_length] at h5
        exact ⟨k0, by show k < _; omega, h5⟩
    · rintro ⟨k, ys⟩ ⟨k0, k1, hk⟩
      exact Ok.gd ⟨k0, k1⟩ (Ok.ret hk)
/-! ### Over rows that own memory -/
def slices_DeleteFuncI (a0 : List Inp) (p : Inp → Option Bool) : Option (List Inp) := if (∀ x ∈ a0, (p x).isSome = true ∧ p x = p ⟨x.turn, x.player, []⟩) ∧ a0.length < 1099511627776 then some (a0.filter (fun x => p x == some false)) else none
def rawP (p : Inp → Option Bool) (z : Raw3) : Option Bool := match z.a, z.b with
  | .int .i64 t, .int .i64 q => p ⟨t, q, []⟩
  | _, _ => none
theorem DZ.ints : ∀ {zs : List (Inp × Raw3)} {h : Hp}, DZ h zs → ∀ z ∈ zs, z.2.a = .int .i64 z.1.turn ∧ z.2.b = .int .i64 z.1.player
  | [], _, _, z, hz => by cases hz
  | y :: ys, h, ⟨p, q, a, b, d, l1, l2⟩, z, hz => by
    rcases List.mem_cons.1 hz with rfl | hz
    · obtain ⟨u, e, _⟩ := Deep.toR a
      have e : [z.2.a, z.2.b, z.2.c] = [.int .i64 z.1.turn, .int .i64 z.1.player, u] := e
      simp only [List.cons.injEq] at e
      exact ⟨e.1, e.2.1⟩
    · exact DZ.ints b z hz
theorem slices_DeleteFuncI_walk {w0 : World} {F : Ch} (a0 : List Inp) (p : Inp → Option Bool) {q0 : Option Nat × Nat} {m0 : Nat} (hm : m0 = a0.length) {v0 : Value} (h0 : FnRF Try.prog w0 F v0 (fun (y0 : Inp) c => ∃ u0 : Value, c = [.agg #[.int .i64 y0.turn, .int .i64 y0.player, u0]]) (fun (r : Bool) => .bool r) p) {r : List Inp} (H : slices_DeleteFuncI a0 p = some r) (w : World) (s : Sat w0 [drow 50 (rowV q0 m0) a0, F] w) :
    Calls Try.prog 106 #[rowV q0 m0, v0] w fun e w' => ∃ q : Option Nat × Nat, e = .returned (rowV q r.length) ∧ Sat w0 [drow 50 (rowV q r.length) r, F] w' := by
  unfold slices_DeleteFuncI at H
  obtain ⟨⟨hp, hl⟩, H⟩ := gdE H
  obtain rfl := Option.some.inj H
  obtain ⟨zs, hz, s2⟩ := s.toZ (α := Inp) rfl 0 rfl
  have hzl : (zs.map (·.2)).length = a0.length := by rw [← hz]; simp
  obtain ⟨hh, hd, _⟩ := s2.get 2 rfl
  have hint := DZ.ints hd
  have hpz : ∀ z ∈ zs, rawP p z.2 = p z.1 := fun z hzm => by
    obtain ⟨e1, e2⟩ := hint z hzm
    have hx : z.1 ∈ a0 := by rw [← hz]; exact List.mem_map_of_mem hzm
    unfold rawP
    rw [e1, e2]
    exact (hp _ hx).2.symm
  have h0r : FnF Try.prog w0 (star F (inn zs)) v0 (fun (y0 : Raw3) => [.agg #[y0.a, y0.b, y0.c]]) (fun (r : Bool) => .bool r) (rawP p) := by
    obtain ⟨f, cs, e1, e2, e3⟩ := h0
    refine ⟨f, cs, e1, e2, fun x r w' hs hr => ?_⟩
    have hs2 : Sat w0 [F] w' := (hs.unstarAt 0 rfl).pick [0] (by decide) rfl
    unfold rawP at hr
    split at hr
    · rename_i t q ha hb
      refine e3 ⟨t, q, []⟩ _ r w' ⟨x.c, ?_⟩ hs2 hr
      show [Value.agg #[x.a, x.b, x.c]] = _
      rw [ha, hb]
    · cases hr
  have hdl : raw_DeleteFunc (zs.map (·.2)) (rawP p) = some ((zs.filter (fun z => rawP p z.2 == some false)).map (·.2)) := by
    rw [raw_del (by rw [hzl]; exact hl) (fun x hx => by
      obtain ⟨z, hzm, rfl⟩ := List.mem_map.1 hx
      rw [hpz z hzm]
      have hx : z.1 ∈ a0 := by rw [← hz]; exact List.mem_map_of_mem hzm
      exact Option.isSome_iff_exists.1 (hp _ hx).1), List.filter_map]
    rfl
  have hfst : (zs.filter (fun z => rawP p z.2 == some false)).map (·.1) = a0.filter (fun x => p x == some false) := by
    rw [← hz, List.filter_map]
    congr 1
    exact List.filter_congr (fun z hzm => by rw [hpz z hzm]; rfl)
  have s3 : Sat w0 [row nilH 50 (rowV q0 m0) (zs.map (·.2)), star F (inn zs)] w := ((Sat.starAt 1 2 s2 rfl rfl (by decide)).pick [0, 1] (by decide) rfl)
  refine (raw_DeleteFunc_walk (zs.map (·.2)) (rawP p) (by rw [hzl]; exact hm) h0r hdl w s3).mono ?_
  rintro e w' ⟨q, rfl, s4⟩
  have s5 := s4.unstarAt 1 rfl
  have s6 := s5.weaken 2 rfl (inn (zs.filter (fun z => rawP p z.2 == some false))) (fun _ h => DZ.sub List.filter_sublist h)
  have s7 := s6.ofZ (α := Inp) rfl 0 2 rfl rfl (by decide) (zs := zs.filter (fun z => rawP p z.2 == some false)) rfl
  have hln : ((zs.filter (fun z => rawP p z.2 == some false)).map (·.2)).length = (a0.filter (fun x => p x == some false)).length := by rw [← hfst]; simp
  refine ⟨q, by rw [hln], ?_⟩
  rw [hfst, hln] at s7
  exact s7.pick [0, 1] (by decide) rfl
end Go.Proofs.Ytlpmiledfcblfaa
