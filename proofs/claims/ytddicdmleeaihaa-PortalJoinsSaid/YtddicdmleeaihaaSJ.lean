
/-
  What the pure functions of the sectors answer: the small ones, tiles beside, lists. The conditions stand in each lemma.
-/
import Derived.Test.YtddicdmleeaihaaPQG
import Derived.Test.YtddicdmleeaihaaVP
import Derived.Test.YtddicdmleeaihaaFS
set_option linter.unusedVariables false
namespace Go.Proofs.Ytddicdmleeaihaa
open Go.Vg Sp
theorem side_p (n : Int) : ground_Side n = some (decide (1 ≤ n ∧ n ≤ 128)) := rfl
theorem may_p (w h : Int) : sector_May w h = some (decide (May w h)) := by
  unfold sector_May
  rw [side_p, side_p]
  simp only [bsome]
  unfold May
  by_cases h1 : 1 ≤ w ∧ w ≤ 128 <;> simp [h1]
theorem across_p {n : Int} (h : 0 ≤ n ∧ n ≤ 4294967296) : sector_across n = some (acr n) := by
  unfold sector_across
  rw [if_pos (by unfold I64; omega), if_pos (by unfold I64; omega), if_pos (by omega)]; rfl
theorem acrossR_p {n : Int} (h : 0 ≤ n ∧ n ≤ 4294967296) : throngref10_Across n = some (acr n) := across_p h
theorem at_p {w t : Int} (hw : 1 ≤ w ∧ w ≤ 128) (ht : 0 ≤ t ∧ t ≤ 4294967296) : sector_At w t = some (atS w t) := by
  have hd := divmod hw.1 ht.1
  have ha : 0 ≤ acr w ∧ acr w ≤ 17 := by unfold acr; omega
  have hm := mul_bd (b := t / w / 8) (B := 4294967296) ha (by omega)
  unfold sector_At
  rw [if_pos (by omega), if_pos (by omega), across_p (by omega), bsome, if_pos (by omega), if_pos (by omega), if_pos (by unfold I64; omega), if_pos (by unfold I64; omega)]; rfl
theorem ofR_p {w t : Int} (hw : 1 ≤ w ∧ w ≤ 128) (ht : 0 ≤ t ∧ t ≤ 4294967296) : throngref10_Of w t = some (atS w t) := at_p hw ht
theorem may_bd {w h : Int} (hm : May w h) : 1 ≤ w * h ∧ w * h ≤ 16384 := by
  unfold May at hm
  have := mul_bd (a := w) (b := h) (A := 128) (B := 128) (by omega) (by omega)
  have := Int.mul_le_mul_of_nonneg_left hm.2.1 (show 0 ≤ w by omega)
  omega
theorem of_p {w h t : Int} (ht : I64 t) : sector_Of w h t = some (ofV w h t, ofE w h t) := by
  unfold I64 at ht
  unfold sector_Of
  rw [may_p, bsome]
  by_cases hm : May w h
  · have hb := may_bd hm
    rw [decide_eq_true hm, if_neg (by simp), if_pos (by intro _; unfold I64; omega)]
    unfold ofV ofE
    by_cases hc : t < 0 ∨ w * h ≤ t
    · rw [if_pos hc, if_neg (by omega), if_pos hm, if_neg (by omega)]
    · rw [if_neg hc, if_pos ⟨hm, by omega⟩, if_pos hm, if_pos (by omega), at_p hm.1 (by omega), bsome]
  · rw [decide_eq_false hm, if_pos (by rfl)]
    unfold ofV ofE; rw [if_neg (fun h => hm h.1), if_neg hm]
theorem mayR_p (w h : Int) (fr : List Bool) : throngref10_May w h fr = some (decide (May w h ∧ (fr.length : Int) = w * h)) := by
  unfold throngref10_May
  rw [if_pos (fun hc => by have := may_bd (w := w) (h := h) (by unfold May; omega); unfold I64; omega)]
  congr 1
  rw [decide_eq_decide]
  unfold May; omega
theorem eqB_p {a b : List Bool} (h : a.length ≤ 9223372036854775807) : throngref0_EqBools a b = some (decide (a = b)) := eqF_eq h
theorem copyB_p {a : List Bool} (h : a.length < 1099511627776) : throngref0_CopyBools a = some a := copyF_eq h
theorem redo_p {W H s : Int} {fr : List Bool} {p : List Int} (hm : May W H) (hs : 0 ≤ s ∧ s < acr W * acr H) (hf : (fr.length : Int) = W * H) (hp : (p.length : Int) = W * H) : sector_redo W H fr p s = some (redoF W H fr p s) := by
  unfold sector_redo
  rw [if_pos ⟨hm.1, hm.2, hs, hf, hp⟩]
theorem len_redoF {W H s : Int} {fr : List Bool} {p : List Int} (h : 0 ≤ W * H) : ((redoF W H fr p s).length : Int) = W * H := by unfold redoF; rw [len_tab]; omega
theorem len_partsF {W H : Int} {fr : List Bool} (h : 0 ≤ W * H) : ((partsF W H fr).length : Int) = W * H := by unfold partsF; rw [len_tab]; omega
theorem atS_bd {W H t : Int} (hm : May W H) (ht : 0 ≤ t ∧ t < W * H) : 0 ≤ atS W t ∧ atS W t < acr W * acr H := by
  unfold May at hm
  have hd := divmod hm.1.1 ht.1
  have hth : t / W < H := Int.ediv_lt_of_lt_mul (by omega) (by rw [Int.mul_comm]; exact ht.2)
  have h1 : 0 ≤ t % W / 8 ∧ t % W / 8 < acr W := by unfold acr; omega
  have h2 : 0 ≤ t / W / 8 ∧ t / W / 8 ≤ acr H - 1 := by unfold acr; omega
  have h3 := Int.mul_nonneg (show 0 ≤ acr W by omega) h2.1
  have h4 := Int.mul_le_mul_of_nonneg_left h2.2 (show 0 ≤ acr W by omega)
  rw [Int.mul_sub] at h4
  unfold atS
  omega
theorem parts_p (W H : Int) (fr : List Bool) : sector_Parts W H fr = some (if May W H ∧ (fr.length : Int) = W * H then (partsF W H fr, 0) else ([], 1)) := by
  unfold sector_Parts
  rw [may_p, bsome]
  by_cases hm : May W H
  · have hb := may_bd hm
    rw [decide_eq_true hm, if_pos (by intro _; unfold I64; omega)]
    by_cases hl : (fr.length : Int) = W * H
    · have hm2 := hm
      unfold May at hm2
      have ha : 1 ≤ acr W ∧ acr W ≤ 17 := by unfold acr; omega
      have hh : 1 ≤ acr H ∧ acr H ≤ 17 := by unfold acr; omega
      have hab := mul_bd (a := acr W) (b := acr H) (A := 17) (B := 17) (by omega) (by omega)
      rw [if_neg (by simp [hl]), if_pos (by unfold I64; omega), if_pos ⟨hm, hl⟩]
      have e : slices_Repeat [(-1)] (W * H) = some (List.replicate (W * H).toNat (-1)) := by
        unfold slices_Repeat; rw [if_pos ⟨rfl, by omega, by omega⟩]; rfl
      rw [e, bsome, across_p (by omega), bsome, across_p (by omega), bsome, if_pos (by unfold I64; omega)]
      refine Ok.eq (Ok.bind (R := fun x => x = partsF W H fr) (Ok.loop (fun z : Int × List Int => 0 ≤ z.1 ∧ z.1 ≤ acr W * acr H ∧ (z.2.length : Int) = W * H ∧ ∀ v, 0 ≤ v → v < W * H → atS W v < z.1 → gi z.2 v = partF W H fr v) (fun z => (acr W * acr H - z.1).toNat) ⟨by simp, by simp; omega, by simp; omega, fun v v0 v1 hv => ?_⟩ (by unfold FUEL; simp; omega) ?_) (fun x hx => Ok.ret (by rw [hx])))
      · have := atS_bd hm ⟨v0, v1⟩; simp at hv; omega
      · rintro ⟨s, p⟩ ⟨h0, h1, h2, h3⟩
        try dsimp only at h0 h1 h2 h3 ⊢
        refine Ok.ite (fun hlt => ?_) (fun hlt => Ok.ret ?_)
        · rw [redo_p hm ⟨h0, hlt⟩ hl h2, bsome]
          refine Ok.gd (by unfold I64; omega) (Ok.ret ⟨⟨by show 0 ≤ s + 1; omega, by show s + 1 ≤ _; omega, len_redoF (by omega), fun v v0 v1 hv => ?_⟩, by show (acr W * acr H - (s + 1)).toNat < (acr W * acr H - s).toNat; omega⟩)
          show gi (redoF W H fr p s) v = _
          unfold redoF
          rw [gi_tab ⟨v0, v1⟩]
          split
          · rfl
          · rename_i hne; exact h3 v v0 v1 (by have : atS W v < s + 1 := hv; omega)
        · refine ext_gi (by have := len_partsF (fr := fr) (W := W) (H := H) (by omega); omega) fun i i0 i1 => ?_
          rw [h3 i i0 (by omega) (by have := atS_bd hm ⟨i0, by omega⟩; omega)]
          unfold partsF; rw [gi_tab ⟨i0, by omega⟩]
    · rw [if_pos (by right; exact hl), if_neg (fun h => hl h.2)]
  · rw [decide_eq_false hm, if_pos (by intro h; exact absurd rfl h), if_pos (by left; rfl), if_neg (fun h => hm h.1)]
def redoE (W H : Int) (fr : List Bool) (p : List Int) (t : Int) : Int := if May W H ∧ (fr.length : Int) = W * H ∧ (p.length : Int) = W * H then (if 0 ≤ t ∧ t < W * H then 0 else 3) else 1
end Go.Proofs.Ytddicdmleeaihaa
