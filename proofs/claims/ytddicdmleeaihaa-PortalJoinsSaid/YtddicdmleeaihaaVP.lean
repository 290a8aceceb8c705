/-
  Lists held against each other, copied, written over, as pure functions. For lists of fewer than 2^40 elements where one grows. No program in sight.
-/
import Derived.Test.YtddicdmleeaihaaVL
set_option linter.unusedVariables false
namespace Go.Vg
theorem bsome {α β : Type} {a : α} {k : α → Option β} : Option.bind (some a) k = k a := rfl
theorem Ok.some {α : Type} {m : Option α} {a : α} (h : m = some a) : Ok m (fun x => x = a) := ⟨a, h, rfl⟩
section
variable {α : Type} [Inhabited α]
theorem take_nextV {s : List α} {i : Int} (h : 0 ≤ i ∧ i < s.length) : s.take (i + 1).toNat = s.take i.toNat ++ [gi s i] := by
  have hl : i.toNat < s.length := by omega
  rw [show (i + 1).toNat = i.toNat + 1 by omega, List.take_succ_eq_append_getElem hl]
  simp [gi, List.getD, List.getElem?_eq_getElem hl]
/-- One by one the same. -/
def eqF [DecidableEq α] (a b : List α) : Option Bool :=
  if ¬ (a.length : Int) = (b.length : Int) then
  some false
  else
  Option.bind (α := Ex (Unit) (Bool)) (loop (σ := Int) (β := Ex (Unit) (Bool)) (fun v3 =>
  if v3 < (a.length : Int) then
  if 0 ≤ v3 ∧ v3 < (a.length : Int) then
  if 0 ≤ v3 ∧ v3 < (b.length : Int) then
  if ¬ (gi a v3) = (gi b v3) then
  some (St.done (Ex.up false))
  else
  if I64 (v3 + 1) then
  some (St.next (v3 + 1))
  else none
  else none
  else none
  else
  some (St.done (Ex.go ()))) 0) fun x => x.then fun _ =>
  some true
theorem eqF_eq [DecidableEq α] {a b : List α} (ha : a.length ≤ 9223372036854775807) : eqF a b = some (decide (a = b)) := by
  unfold eqF
  refine Ok.eq (Ok.ite (fun hn => Ok.ret (decide_eq_false (fun e => hn (by rw [e]))).symm) (fun hn => ?_))
  have hl : a.length = b.length := by omega
  refine Ok.bind (R := fun x => x = if a = b then Ex.go () else Ex.up false) (Ok.loop (fun i : Int => 0 ≤ i ∧ i ≤ a.length ∧ ∀ j : Int, 0 ≤ j → j < i → gi a j = gi b j) (fun i => (a.length - i).toNat) ⟨by omega, by omega, fun j h0 h1 => by omega⟩ (by unfold FUEL; omega) ?_) ?_
  · rintro i ⟨h0, h1, hq⟩
    refine Ok.ite (fun hlt => ?_) (fun hlt => Ok.ret ?_)
    · refine Ok.gd ⟨h0, hlt⟩ (Ok.gd ⟨h0, by omega⟩ (Ok.ite (fun hne => Ok.ret ?_) (fun he => Ok.gd (by unfold I64; omega) (Ok.ret ?_))))
      · show Ex.up false = _
        rw [if_neg (fun e => hne (by rw [e]))]
      · refine ⟨⟨by omega, by omega, fun j j0 j1 => ?_⟩, by omega⟩
        by_cases hj : j = i
        · subst hj; exact Decidable.not_not.1 he
        · exact hq j j0 (by omega)
    · show Ex.go () = _
      rw [if_pos (ext_gi hl fun j j0 j1 => hq j j0 (by omega))]
  · rintro x rfl
    by_cases hab : a = b
    · rw [if_pos hab]; exact Ok.ret (by rw [decide_eq_true hab])
    · rw [if_neg hab]; exact Ok.ret (by rw [decide_eq_false hab])
/-- New memory. -/
def copyF (l : List α) : Option (List α) :=
  Option.bind (α := List α) (loop (σ := List α × Int) (β := List α) (fun (l4, v6) =>
  if v6 < (l.length : Int) then
  if 0 ≤ v6 ∧ v6 < (l.length : Int) then
  if l4.length < 1099511627776 then
  if I64 (v6 + 1) then
  some (St.next ((l4 ++ [(gi l v6)]), (v6 + 1)))
  else none
  else none
  else none
  else
  some (St.done l4)) ([], 0)) fun v2 =>
  some v2
theorem copyF_eq {l : List α} (h : l.length < 1099511627776) : copyF l = some l := by
  unfold copyF
  refine Ok.eq (Ok.bind (R := fun x => x = l) (Ok.loop (fun z : List α × Int => 0 ≤ z.2 ∧ z.2 ≤ l.length ∧ z.1 = l.take z.2.toNat) (fun z => (l.length - z.2).toNat) ⟨by simp, by simp, by simp⟩ (by unfold FUEL; simp; omega) ?_) (fun x hx => Ok.ret hx))
  rintro ⟨m, i⟩ ⟨h0, h1, hq⟩
  try dsimp only at h0 h1 hq ⊢
  subst hq
  refine Ok.ite (fun hlt => ?_) (fun hlt => Ok.ret ?_)
  · refine Ok.gd ⟨h0, hlt⟩ (Ok.gd (by rw [List.length_take]; omega) (Ok.gd (by unfold I64; omega) (Ok.ret ⟨⟨by show 0 ≤ i + 1; omega, by show i + 1 ≤ _; omega, ?_⟩, by show ((l.length : Int) - (i + 1)).toNat < (l.length - i).toNat; omega⟩)))
    exact (take_nextV ⟨h0, hlt⟩).symm
  · show l.take i.toNat = l
    rw [show i.toNat = l.length by omega, List.take_length]
end
section
variable {α : Type}
/-- Each element is written over. -/
def spoilF (x : α) (l : List α) : Option (List α) :=
  loop (σ := Int × List α) (β := List α) (fun (v6, l7) =>
  if v6 < (l.length : Int) then
  if 0 ≤ v6 ∧ v6 < (l.length : Int) then
  if I64 (v6 + 1) then
  some (St.next ((v6 + 1), (si l7 v6 x)))
  else none
  else none
  else
  some (St.done l7)) (0, l)
theorem spoilF_ok {l : List α} {x : α} (h : l.length < 1099511627776) : Ok (spoilF x l) (fun r => r.length = l.length) := by
  unfold spoilF
  refine Ok.loop (fun z : Int × List α => 0 ≤ z.1 ∧ z.1 ≤ l.length ∧ z.2.length = l.length) (fun z => (l.length - z.1).toNat) ⟨by simp, by simp, rfl⟩ (by unfold FUEL; simp; omega) ?_
  rintro ⟨i, m⟩ ⟨h0, h1, hq⟩
  try dsimp only at h0 h1 hq ⊢
  refine Ok.ite (fun hlt => ?_) (fun hlt => Ok.ret hq)
  exact Ok.gd ⟨h0, hlt⟩ (Ok.gd (by unfold I64; omega) (Ok.ret ⟨⟨by show 0 ≤ i + 1; omega, by show i + 1 ≤ _; omega, by show (si m i x).length = _; rw [len_si]; exact hq⟩, by show ((l.length : Int) - (i + 1)).toNat < (l.length - i).toNat; omega⟩))
end
end Go.Vg
