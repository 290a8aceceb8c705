/-
  The five statements of the sectors, as pure functions, are true. For arguments that are Go's.
-/
import Derived.Test.YtacpdjccbadomaaSK
set_option linter.unusedVariables false
set_option linter.unusedSimpArgs false
namespace Go.Proofs.Ytacpdjccbadomaa
open Go.Vg Sp Ff
theorem wakes0 : throngref10_Parts 2 1 [true, true] = some [0, 0] := by decide +kernel
theorem wakes_p : thronglaw10_wakes = some true := by
  have hm : May 2 1 := by unfold May; omega
  have h0 := partsR_p (fr := [true, true]) hm (by rfl)
  rw [wakes0] at h0
  have h1 : partsF 2 1 [true, true] = [0, 0] := (Option.some.inj h0).symm
  unfold thronglaw10_wakes
  rw [parts_p, if_pos ⟨hm, by rfl⟩, bsome, h1]
  simp only [num_p, bsome, if_true]
  rw [eqN_p (by simp), bsome]; rfl
theorem numbers_law {p : Ask} (hp : p.Wf) (hT : p.Ts.length ≤ 9223372036854775807) : thronglaw10_SectorNumbers p = some true := by
  obtain ⟨hW, hH, hTs, _⟩ := hp
  unfold thronglaw10_SectorNumbers
  rw [heavy_p, bsome]
  refine Ok.eq (Ok.ite (fun _ => Ok.ret rfl) (fun _ => ?_))
  have e1 : (if (((1 ≤ p.W) ∧ (p.W ≤ 128)) ∧ (1 ≤ p.H)) ∧ (p.H ≤ 128) then Option.bind (throngref10_Across p.W) fun x51 => Option.bind (throngref10_Across p.H) fun x52 => if I64 (x51 * x52) then some ((0 : Int), (x51 * x52)) else none else some (1, 0)) = some (cntE p.W p.H, cntV p.W p.H) := by
    unfold cntE cntV
    by_cases hm : May p.W p.H
    · have hm2 := hm
      unfold May at hm2
      have ha : 0 ≤ acr p.W ∧ acr p.W ≤ 17 := by unfold acr; omega
      have hh : 0 ≤ acr p.H ∧ acr p.H ≤ 17 := by unfold acr; omega
      have := mul_bd ha hh
      rw [if_pos (by omega), acrossR_p (by omega), bsome, acrossR_p (by omega), bsome, if_pos (by unfold I64; omega), if_pos hm, if_pos hm]
    · rw [if_neg (fun h => hm (by unfold May; omega)), if_neg hm, if_neg hm]
  rw [e1, bsome, count_p]
  simp only [bsome, num_p]
  rw [if_neg (by simp)]
  refine Ok.bind (R := fun x => x = Ex.go ()) (Ok.loop (fun i : Int => 0 ≤ i ∧ i ≤ p.Ts.length) (fun i => (p.Ts.length - i).toNat) ⟨by omega, by omega⟩ (by unfold FUEL; omega) ?_) (fun x hx => ?_)
  · rintro i ⟨h0, h1⟩
    refine Ok.ite (fun hlt => Ok.gd ⟨h0, hlt⟩ ?_) (fun _ => Ok.ret rfl)
    have ht := hTs _ (gi_mem (xs := p.Ts) ⟨h0, hlt⟩)
    have ht2 := ht
    unfold I64 at ht2
    have e2 : (if (((1 ≤ p.W) ∧ (p.W ≤ 128)) ∧ (1 ≤ p.H)) ∧ (p.H ≤ 128) then if (0 ≤ gi p.Ts i) → I64 (p.W * p.H) then if (0 ≤ gi p.Ts i) ∧ (gi p.Ts i < p.W * p.H) then Option.bind (throngref10_Of p.W (gi p.Ts i)) fun x40 => some ((0 : Int), x40) else some (3, 0) else none else some (1, 0)) = some (ofE p.W p.H (gi p.Ts i), ofV p.W p.H (gi p.Ts i)) := by
      unfold ofV ofE
      by_cases hm : May p.W p.H
      · have hm2 := hm
        unfold May at hm2
        have hb := may_bd hm
        rw [if_pos (show (((1 ≤ p.W) ∧ (p.W ≤ 128)) ∧ (1 ≤ p.H)) ∧ (p.H ≤ 128) by omega), if_pos (fun _ => by unfold I64; omega)]
        by_cases hc : 0 ≤ gi p.Ts i ∧ gi p.Ts i < p.W * p.H
        · rw [if_pos hc, ofR_p hm.1 (by omega), bsome, if_pos hm, if_pos hc, if_pos ⟨hm, hc⟩]
        · rw [if_neg hc, if_pos hm, if_neg hc, if_neg (fun h => hc h.2)]
      · rw [if_neg (show ¬ ((((1 ≤ p.W) ∧ (p.W ≤ 128)) ∧ (1 ≤ p.H)) ∧ (p.H ≤ 128)) from fun h => hm (by unfold May; omega)), if_neg hm, if_neg (fun h => hm h.1)]
    rw [e2, bsome, of_p ht, bsome]
    simp only [num_p, bsome]
    rw [if_neg (by simp)]
    exact Ok.gd (by unfold I64; omega) (Ok.ret ⟨⟨by omega, by omega⟩, by omega⟩)
  · subst hx
    show Ok (Option.bind thronglaw10_wakes fun x19 => some x19) _
    rw [wakes_p]
    exact Ok.ret rfl
theorem parts_law {p : Ask} (hF : p.Free.length ≤ 9223372036854775807) : thronglaw10_SectorParts p = some true := by
  unfold thronglaw10_SectorParts
  rw [heavy_p, bsome]
  refine Ok.eq (Ok.ite (fun _ => Ok.ret rfl) (fun hh => ?_))
  have hf : p.Free.length ≤ 900 := by simp at hh; omega
  rw [form_p, bsome, copyB_p (by omega)]
  simp only [bsome, num_p, parts_p]
  by_cases hc : May p.W p.H ∧ (p.Free.length : Int) = p.W * p.H
  · have hl := len_partsF (W := p.W) (H := p.H) (fr := p.Free) (by have := may_bd hc.1; omega)
    have hb := may_bd hc.1
    simp only [if_pos hc, if_true]
    rw [partsR_p hc.1 hc.2]
    simp only [bsome, not_true_eq_false, if_false]
    rw [eqN_p (by omega), bsome, eqB_p (by omega), bsome]
    simp only [decide_true, Bool.not_true, Bool.false_eq_true, if_false, bsome]
    rw [numbers_p (by omega), bsome, wakes_p]
    exact Ok.ret rfl
  · simp only [if_neg hc]
    rw [if_neg (by omega), bsome, if_neg (by simp), eqN_p (by simp), bsome, bsome, eqB_p (by omega)]
    simp only [decide_true, Bool.not_true, Bool.false_eq_true, if_false, bsome]
    rw [numbers_p (by simp), bsome, wakes_p]
    exact Ok.ret rfl
theorem redo_law {p : Ask} (hp : p.Wf) (hT : p.Ts.length ≤ 9223372036854775807) : thronglaw10_SectorRedo p = some true := by
  obtain ⟨hW, hH, hTs, _⟩ := hp
  unfold thronglaw10_SectorRedo
  rw [heavy_p, bsome]
  refine Ok.eq (Ok.ite (fun _ => Ok.ret rfl) (fun hh => ?_))
  have hpl : p.Parts.length ≤ 2000 := by simp at hh; omega
  refine Ok.bind (R := fun x => x = Ex.go ()) (Ok.loop (fun i : Int => 0 ≤ i ∧ i ≤ p.Ts.length) (fun i => (p.Ts.length - i).toNat) ⟨by omega, by omega⟩ (by unfold FUEL; omega) ?_) (fun x hx => ?_)
  · rintro i ⟨h0, h1⟩
    refine Ok.ite (fun hlt => ?_) (fun _ => Ok.ret rfl)
    have ht := hTs _ (gi_mem (xs := p.Ts) ⟨h0, hlt.1⟩)
    obtain ⟨t, hte⟩ : ∃ t, t = gi p.Ts i := ⟨_, rfl⟩
    rw [← hte] at ht ⊢
    have hb : (if May p.W p.H ∧ (p.Free.length : Int) = p.W * p.H then (0 : Int) else 1) = 0 → I64 (p.W * p.H) := fun h => by
      by_cases hc : May p.W p.H ∧ (p.Free.length : Int) = p.W * p.H
      · have := may_bd hc.1; unfold I64; omega
      · rw [if_neg hc] at h; omega
    rw [form_p, bsome]
    refine Ok.gd hb ?_
    obtain ⟨v, hv⟩ : ∃ v : Int, v = if May p.W p.H ∧ (p.Free.length : Int) = p.W * p.H ∧ (p.Parts.length : Int) = p.W * p.H then 0 else 1 := ⟨_, rfl⟩
    have e1 : (if ((if May p.W p.H ∧ (p.Free.length : Int) = p.W * p.H then (0 : Int) else 1) = 0) ∧ (¬ (p.Parts.length : Int) = p.W * p.H) then some (1 : Int) else some (if May p.W p.H ∧ (p.Free.length : Int) = p.W * p.H then (0 : Int) else 1)) = some v := by
      rw [hv]
      by_cases hc : May p.W p.H ∧ (p.Free.length : Int) = p.W * p.H
      · by_cases hd : (p.Parts.length : Int) = p.W * p.H
        · rw [if_pos hc, if_neg (by simp [hd]), if_pos ⟨hc.1, hc.2, hd⟩]
        · rw [if_pos hc, if_pos ⟨rfl, hd⟩, if_neg (fun h => hd h.2.2)]
      · rw [if_neg hc, if_neg (by simp), if_neg (fun h => hc ⟨h.1, h.2.1⟩)]
    rw [e1, bsome]
    have hb2 : v = 0 → May p.W p.H ∧ (p.Free.length : Int) = p.W * p.H ∧ (p.Parts.length : Int) = p.W * p.H := fun h => by
      by_cases hc : May p.W p.H ∧ (p.Free.length : Int) = p.W * p.H ∧ (p.Parts.length : Int) = p.W * p.H
      · exact hc
      · rw [if_neg hc] at hv; omega
    refine Ok.gd (fun _ => ⟨h0, hlt.1⟩) (Ok.gd (fun _ _ => ⟨h0, hlt.1⟩) (Ok.gd (fun hv0 _ => by have := may_bd (hb2 hv0).1; unfold I64; omega) ?_))
    have e2 : (if (v = 0) ∧ ((t < 0) ∨ (p.W * p.H ≤ t)) then some (3 : Int) else some v) = some (redoE p.W p.H p.Free p.Parts t) := by
      unfold redoE
      by_cases hc : May p.W p.H ∧ (p.Free.length : Int) = p.W * p.H ∧ (p.Parts.length : Int) = p.W * p.H
      · rw [if_pos hc] at hv ⊢
        by_cases hd : 0 ≤ t ∧ t < p.W * p.H
        · rw [if_neg (by omega), if_pos hd, hv]
        · rw [if_pos (by omega), if_neg hd]
      · rw [if_neg hc] at hv ⊢
        rw [if_neg (by omega), hv]
    rw [e2, bsome]
    obtain ⟨E, hE⟩ : ∃ E, E = redoE p.W p.H p.Free p.Parts t := ⟨_, rfl⟩
    have e3 : (if E = 0 then if 0 ≤ i ∧ i < (p.Ts.length : Int) then Option.bind (throngref10_Redo p.W p.H p.Free p.Parts t) fun x51 => some x51 else none else some []) = some (if E = 0 then redoF p.W p.H p.Free p.Parts (atS p.W t) else []) := by
      by_cases hE0 : E = 0
      · rw [if_pos hE0, if_pos hE0, if_pos ⟨h0, hlt.1⟩]
        rw [hE] at hE0
        unfold redoE at hE0
        by_cases hc : May p.W p.H ∧ (p.Free.length : Int) = p.W * p.H ∧ (p.Parts.length : Int) = p.W * p.H
        · rw [if_pos hc] at hE0
          by_cases hd : 0 ≤ t ∧ t < p.W * p.H
          · rw [redoR_p hc.1 hc.2.1 hc.2.2 hd]; rfl
          · rw [if_neg hd] at hE0; omega
        · rw [if_neg hc] at hE0; omega
      · rw [if_neg hE0, if_neg hE0]
    rw [← hE, e3, bsome, copyN_p (by omega), bsome]
    refine Ok.gd ⟨h0, hlt.1⟩ ?_
    rw [redoX_p (by omega) ht]
    simp only [bsome, num_p, ← hE, not_true_eq_false, if_false]
    have hlen : (if E = 0 then redoF p.W p.H p.Free p.Parts (atS p.W t) else []).length ≤ 9223372036854775807 := by
      split
      · rename_i hE0
        rw [hE] at hE0
        unfold redoE at hE0
        by_cases hc : May p.W p.H ∧ (p.Free.length : Int) = p.W * p.H ∧ (p.Parts.length : Int) = p.W * p.H
        · have := may_bd hc.1
          have := len_redoF (W := p.W) (H := p.H) (fr := p.Free) (p := p.Parts) (s := atS p.W t) (by omega)
          omega
        · rw [if_neg hc] at hE0; omega
      · simp
    rw [eqN_p hlen, bsome, eqN_p (by omega)]
    simp only [decide_true, Bool.not_true, Bool.false_eq_true, if_false, bsome]
    exact Ok.gd (by unfold I64; omega) (Ok.ret ⟨⟨by show 0 ≤ i + 1; omega, by show i + 1 ≤ _; omega⟩, by show ((p.Ts.length : Int) - (i + 1)).toNat < (p.Ts.length - i).toNat; omega⟩)
  · subst hx
    show Ok (Option.bind thronglaw10_wakes fun x19 => some x19) _
    rw [wakes_p]
    exact Ok.ret rfl
theorem edges_law {p : Ask} : thronglaw10_SectorEdges p = some true := by
  unfold thronglaw10_SectorEdges
  refine Ok.eq (Ok.bind (R := fun x => x = Ex.go ()) (Ok.loop (fun w : Int => 1 ≤ w ∧ w ≤ 100) (fun w => (100 - w).toNat) ⟨by omega, by omega⟩ (by unfold FUEL; omega) ?_) (fun x hx => ?_))
  · rintro w ⟨w0, w1⟩
    refine Ok.ite (fun hw => ?_) (fun _ => Ok.ret rfl)
    refine Ok.bind (R := fun x => x = Ex.go ()) (Ok.loop (fun h : Int => 1 ≤ h ∧ h ≤ 100) (fun h => (100 - h).toNat) ⟨by omega, by omega⟩ (by unfold FUEL; omega) ?_) (fun x hx => ?_)
    · rintro h ⟨h0, h1⟩
      refine Ok.ite (fun hh => ?_) (fun _ => Ok.ret rfl)
      obtain ⟨e1, e2, e3, e4, e5, e6, e7, e8⟩ := edges (w := w) (h := h) (by omega) (by omega)
      have hm := mul_bd (a := w) (b := h) (A := 40) (B := 40) (by omega) (by omega)
      have hk := mul_bd (a := (w + 7) / 8) (b := (h + 7) / 8) (A := 40) (B := 40) (by omega) (by omega)
      rw [count_p, bsome, of_p (by unfold I64; omega), bsome]
      refine Ok.gd (by unfold I64; omega) (Ok.gd (by unfold I64; omega) ?_)
      rw [of_p (by unfold I64; omega), bsome]
      refine Ok.gd (by unfold I64; omega) ?_
      rw [of_p (by unfold I64; omega), bsome]
      simp only [num_p, bsome, e1, e2, e3, e4, e5, e6, e7, e8, not_true_eq_false, if_false, decide_false, Bool.false_eq_true, not_false_eq_true, true_implies, or_self, false_or]
      refine Ok.gd (by unfold I64; omega) (Ok.gd (by omega) (Ok.gd (by unfold I64; omega) (Ok.gd (by omega) (Ok.gd (by unfold I64; omega) (Ok.gd (by unfold I64; omega) (Ok.gd (by unfold I64; omega) (Ok.gd (by omega) (Ok.gd (by unfold I64; omega) ?_))))))))
      exact Ok.gd (by unfold I64; omega) (Ok.gd (by omega) (Ok.gd (by unfold I64; omega) (Ok.ret ⟨⟨by omega, by omega⟩, by omega⟩)))
    · subst hx
      exact Ok.gd (by unfold I64; omega) (Ok.gd (by omega) (Ok.gd (by unfold I64; omega) (Ok.ret ⟨⟨by omega, by omega⟩, by omega⟩)))
  · subst hx
    have c1 : cntE 0 1 = 1 := by decide
    have c2 : cntE 1 129 = 1 := by decide
    have c3 : ofE 3 3 9 = 3 := by decide
    simp only [Ex.then]
    rw [count_p, bsome, count_p, bsome, of_p (by decide), bsome]
    simp only [num_p, bsome, c1, c2, c3, if_true, decide_true]
    rw [if_pos ⟨trivial, by omega⟩, wakes_p]
    exact Ok.ret rfl
end Go.Proofs.Ytacpdjccbadomaa
