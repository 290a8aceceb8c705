/-
  Each tile's part as a function; a sector reckoned anew as a function of what was; the walk of sector.redo told so, and two functions of Go's library. The conditions stand in each lemma.
-/
import Derived.Test.YtddicdmleeaihaaSE
import Derived.Test.YtddicdmleeaihaaZL
import Derived.Test.YtddicdmleeaihaaVL
set_option linter.unusedVariables false
namespace Go.Proofs.Ytddicdmleeaihaa
namespace Sp
open Ff Go.Vg
open Classical in
noncomputable def partF (W H : Int) (fr : List Bool) (v : Int) : Int := if h : ∃ m, Part W H fr v m then h.choose else -1
theorem partF_of {W H : Int} {fr : List Bool} {v m : Int} (h : Part W H fr v m) : partF W H fr v = m := by
  have he : ∃ m, Part W H fr v m := ⟨m, h⟩
  unfold partF
  rw [dif_pos he]
  exact he.choose_spec.uniq h
/-- The list of f's values below n. -/
def tab {α : Type} (n : Int) (f : Int → α) : List α := (List.range n.toNat).map fun k : Nat => f (k : Int)
theorem len_tab {α : Type} {n : Int} {f : Int → α} : (tab n f).length = n.toNat := by simp [tab]
theorem gi_tab {α : Type} [Inhabited α] {n : Int} {f : Int → α} {i : Int} (h : 0 ≤ i ∧ i < n) : gi (tab n f) i = f i := by
  unfold tab gi
  have hl : i.toNat < n.toNat := by omega
  simp [List.getD, hl]
  congr 1; omega
noncomputable def partsF (W H : Int) (fr : List Bool) : List Int := tab (W * H) (partF W H fr)
noncomputable def redoF (W H : Int) (fr : List Bool) (p : List Int) (s : Int) : List Int := tab (W * H) fun v => if atS W v = s then partF W H fr v else gi p v
theorem redo_eq {W H s : Int} {fr : List Bool} {p p' : List Int} (h : RedoOk W H s fr p p') : p' = redoF W H fr p s := by
  obtain ⟨h1, h2, h3⟩ := h
  refine ext_gi (by unfold redoF; rw [len_tab]; omega) fun i h0 hi => ?_
  unfold redoF
  rw [gi_tab ⟨h0, by omega⟩]
  split
  · rename_i hs; exact (partF_of (h3 i h0 (by omega) hs)).symm
  · rename_i hs; exact h2 i h0 (by omega) hs
theorem parts_eq {W H : Int} {fr : List Bool} {p : List Int} (h : PartsOk W H fr p) : p = partsF W H fr :=
  ext_gi (by unfold partsF; rw [len_tab]; have := h.1; omega) fun i h0 hi => by
    have h1 := h.1
    unfold partsF
    rw [gi_tab ⟨h0, by omega⟩, partF_of (h.2 i h0 (by omega))]
end Sp
open Sp Go.Vg
open Enc (R)
noncomputable def sector_redo (W H : Int) (fr : List Bool) (p : List Int) (s : Int) : Option (List Int) :=
  if (1 ≤ W ∧ W ≤ 128) ∧ (1 ≤ H ∧ H ≤ 128) ∧ (0 ≤ s ∧ s < acr W * acr H) ∧ (fr.length : Int) = W * H ∧ (p.length : Int) = W * H then some (redoF W H fr p s) else none
theorem sector_redo_walk {w0 : World} {F : Ch} (W H : Int) (fr : List Bool) (p : List Int) (s : Int) {q0 : Option Nat × Nat} {m0 : Nat} (hm : m0 = p.length) {v0 : Value} (h0 : R (hpOf w0) fr [v0]) {r : List Int} (hr : sector_redo W H fr p s = some r)
    (w : World) (st : Sat w0 [row nilH 3 (rowV q0 m0) p, F] w) : Calls Try.prog 27 #[.int .i64 W, .int .i64 H, v0, rowV q0 m0, .int .i64 s] w fun e w' => e = .returned (.tuple #[]) ∧ Sat w0 [row nilH 3 (rowV q0 m0) r, F] w' := by
  unfold sector_redo at hr
  obtain ⟨⟨hW, hH, hs, hf, hp⟩, hr⟩ := gdE hr
  obtain rfl := Option.some.inj hr
  subst hm
  refine (redo_calls W H s fr p q0 v0 hW hH hs hf hp h0 w st).mono ?_
  rintro e w' ⟨⟨p', hp'⟩, he, hs'⟩
  refine ⟨he, ?_⟩
  have hl : p'.length = p.length := by have := hp'.1; omega
  have e' := redo_eq hp'
  subst e'
  exact hs'
def slices_Repeat (x : List Int) (n : Int) : Option (List Int) := if x.length = 1 ∧ 1 ≤ n ∧ n < 2147483648 then some (List.replicate n.toNat (gi x 0)) else none
theorem slices_Repeat_walk (x : List Int) (n : Int) (w : World) {v0 : Value} (h0 : R (hpOf w) x [v0]) {r : List Int} (H : slices_Repeat x n = some r) : Calls Try.prog 25 #[v0, .int .i64 n] w fun e w' => ∃ g : (Option Nat × Nat), e = .returned (rowV g r.length) ∧ Sat w [row nilH 3 (rowV g r.length) r] w' := by
  unfold slices_Repeat at H
  obtain ⟨⟨hx, h1, h2⟩, H⟩ := gdE H
  obtain rfl := Option.some.inj H
  obtain ⟨a, rfl⟩ : ∃ a, x = [a] := by
    match x, hx with
    | [a], _ => exact ⟨a, rfl⟩
  refine (repeatInt_calls ⟨h1, h2⟩ w h0).mono ?_
  rintro e w' ⟨b, he, hs⟩
  refine ⟨(some b, n.toNat), ?_, ?_⟩
  · rw [he, List.length_replicate]; rfl
  · rw [List.length_replicate]; exact hs
end Go.Proofs.Ytddicdmleeaihaa
