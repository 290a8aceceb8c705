/-
  Each pair lies in one run; what apart answers. The conditions stand in each lemma.
-/
import Derived.Test.YtddicdmleeaihaaPQF
set_option linter.unusedVariables false
set_option linter.unusedSimpArgs false
namespace Go.Proofs.Ytddicdmleeaihaa
open Go.Vg Sp
/-- A pair's place. -/
def PairD (W H : Int) (fr : List Bool) (d : Bool) (c v : Int) : Prop := OkB W H d c ∧ (0 ≤ v ∧ v < limD W H d) ∧ QD W fr d c v
theorem left_ex {Q : Int → Prop} {v : Int} (hv : 0 ≤ v) (hq : Q v) : ∃ s, 0 ≤ s ∧ s ≤ v ∧ s / 8 = v / 8 ∧ (∀ j, s ≤ j → j ≤ v → Q j) ∧ (s % 8 = 0 ∨ ¬ Q (s - 1)) := by
  obtain ⟨n, hn⟩ : ∃ n : Nat, (n : Int) = v % 8 := ⟨(v % 8).toNat, by omega⟩
  induction n generalizing v with
  | zero => exact ⟨v, hv, by omega, rfl, fun j a b => by rw [show j = v by omega]; exact hq, .inl (by omega)⟩
  | succ n ih =>
    by_cases h : Q (v - 1)
    · obtain ⟨s, h1, h2, h3, h4, h5⟩ := ih (v := v - 1) (by omega) h (by omega)
      refine ⟨s, h1, by omega, by omega, fun j a b => ?_, h5⟩
      by_cases e : j = v
      · rw [e]; exact hq
      · exact h4 j a (by omega)
    · exact ⟨v, hv, by omega, rfl, fun j a b => by rw [show j = v by omega]; exact hq, .inr h⟩
theorem right_ex {Q : Int → Prop} {v L : Int} (hv : 0 ≤ v ∧ v < L) (hq : Q v) : ∃ e, v < e ∧ e ≤ L ∧ (e - 1) / 8 = v / 8 ∧ (∀ j, v ≤ j → j < e → Q j) ∧ (e % 8 = 0 ∨ e = L ∨ ¬ Q e) := by
  obtain ⟨n, hn⟩ : ∃ n : Nat, (n : Int) = 7 - v % 8 := ⟨(7 - v % 8).toNat, by omega⟩
  induction n generalizing v with
  | zero => exact ⟨v + 1, by omega, by omega, by omega, fun j a b => by rw [show j = v by omega]; exact hq, .inl (by omega)⟩
  | succ n ih =>
    by_cases hl : v + 1 = L
    · exact ⟨v + 1, by omega, by omega, by omega, fun j a b => by rw [show j = v by omega]; exact hq, .inr (.inl hl)⟩
    by_cases h : Q (v + 1)
    · obtain ⟨e, h1, h2, h3, h4, h5⟩ := ih (v := v + 1) (by omega) h (by omega)
      refine ⟨e, by omega, h2, by omega, fun j a b => ?_, h5⟩
      by_cases e2 : j = v
      · rw [e2]; exact hq
      · exact h4 j (by omega) b
    · exact ⟨v + 1, by omega, by omega, by omega, fun j a b => by rw [show j = v by omega]; exact hq, .inr (.inr h)⟩
/-- Each pair lies in a run. -/
theorem run_ex {W H : Int} {fr : List Bool} {d : Bool} {c v : Int} (h : PairD W H fr d c v) : ∃ s n, RunD W H fr d c s n ∧ s ≤ v ∧ v < s + n := by
  obtain ⟨ho, hv, hq⟩ := h
  obtain ⟨s, a1, a2, a3, a4, a5⟩ := left_ex (Q := QD W fr d c) hv.1 hq
  obtain ⟨e, b1, b2, b3, b4, b5⟩ := right_ex (Q := QD W fr d c) hv hq
  refine ⟨s, e - s, ⟨ho, by omega, a1, by omega, by rw [show s + (e - s) - 1 = e - 1 by omega]; omega, fun j x y => ?_, a5, by rw [show s + (e - s) = e by omega]; exact b5⟩, a2, by omega⟩
  by_cases hj : j ≤ v
  · exact a4 j x hj
  · exact b4 j (by omega) (by omega)
theorem RunD.pair {W H : Int} {fr : List Bool} {d : Bool} {c v n j : Int} (h : RunD W H fr d c v n) (hj : v ≤ j ∧ j < v + n) : PairD W H fr d c j := ⟨h.ok, h.side.2 j hj.1 hj.2, h.q j hj.1 hj.2⟩
/-! ### apart -/
def Apart (W : Int) (fr : List Bool) (a b : Int) : Prop := gi fr a = true ∧ gi fr b = true ∧ atS W a ≠ atS W b
theorem apart_p {p : Ask} {a b : Int} (hm : May p.W p.H) (hf : (p.Free.length : Int) = p.W * p.H) (ha : 0 ≤ a ∧ a < p.W * p.H) (hb : 0 ≤ b ∧ b < p.W * p.H) : Ok (thronglaw11_apart p a b) (fun r => r = true ↔ Apart p.W p.Free a b) := by
  have hbd := may_bd hm
  unfold thronglaw11_apart
  rw [of_p (by unfold I64; omega), bsome, of_p (by unfold I64; omega), bsome, num11_p, bsome]
  dsimp only
  have e1 : ofE p.W p.H a = 0 := by unfold ofE; rw [if_pos hm, if_pos ha]
  have e2 : ofE p.W p.H b = 0 := by unfold ofE; rw [if_pos hm, if_pos hb]
  have f1 : ofV p.W p.H a = atS p.W a := by unfold ofV; rw [if_pos ⟨hm, ha⟩]
  have f2 : ofV p.W p.H b = atS p.W b := by unfold ofV; rw [if_pos ⟨hm, hb⟩]
  rw [e1, e2, if_pos rfl, num11_p, bsome, bsome, f1, f2, if_pos (fun _ => by omega), if_pos (fun _ => by omega)]
  refine Ok.ret ?_
  unfold Apart
  simp only [decide_eq_true_eq]
  simp [and_assoc]
theorem apart_pair {W H : Int} {fr : List Bool} {d : Bool} {c v : Int} (hm : May W H) (hc : 0 ≤ c ∧ c < sidD W H d) (hv : 0 ≤ v ∧ v < limD W H d) (hcs : c + 1 < sidD W H d) : Apart W fr (posD W d c v) (posD W d (c + 1) v) ↔ PairD W H fr d c v := by
  have hW : 1 ≤ W := by unfold May at hm; omega
  unfold Apart PairD QD OkB
  rw [sec_at hc hv, sec_at (H := H) (by omega) hv, posD_over, Ne, sec_c hW hc.1]
  constructor
  · rintro ⟨h1, h2, h3⟩; exact ⟨⟨hc.1, h3, hcs⟩, hv, h1, h2⟩
  · rintro ⟨⟨_, h3, _⟩, _, h1, h2⟩; exact ⟨h1, h2, h3⟩
end Go.Proofs.Ytddicdmleeaihaa
