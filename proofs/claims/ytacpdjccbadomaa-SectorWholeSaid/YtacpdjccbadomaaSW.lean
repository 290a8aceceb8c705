/-
  The statement that speaks of whole maps, as a pure function, is true. For arguments that are Go's.
-/
import Derived.Test.YtacpdjccbadomaaSL
set_option linter.unusedVariables false
set_option linter.unusedSimpArgs false
namespace Go.Proofs.Ytacpdjccbadomaa
open Go.Vg Sp Ff
theorem wh_free {W H t : Int} {fr : List Bool} (hm : May W H) (hl : (fr.length : Int) = W * H) (ht : 0 ≤ t ∧ t < W * H) (hf : gi fr t = true) :
    0 ≤ gi (partsF W H fr) t ∧ gi (partsF W H fr) t ≤ t ∧ atS W (gi (partsF W H fr) t) = atS W t ∧ gi (partsF W H fr) (gi (partsF W H fr) t) = gi (partsF W H fr) t ∧
    ∀ u, Adj W H fr t u → gi (partsF W H fr) u = gi (partsF W H fr) t := by
  have hP := partsOk_p hm hl
  have hW := hm.1.1
  have hL := (hP.2 t ht.1 ht.2).1 hf
  have hi := Rch.in hW hL.1 ⟨ht, hf⟩
  refine ⟨hi.1.1, hL.2 t (.refl t), hi.2.2, ?_, fun u hu => ?_⟩
  · exact ((hP.2 _ hi.1.1 hi.1.2).1 hi.2.1).uniq (hL.of (Adj.symm hW) hL.1)
  · have hu2 := Adj.symm hW t u hu
    exact ((hP.2 u hu2.1.1 hu2.1.2).1 hu2.2.1).uniq (hL.of (Adj.symm hW) (Rch.one hu))
theorem wh_not {W H t : Int} {fr : List Bool} (hm : May W H) (hl : (fr.length : Int) = W * H) (ht : 0 ≤ t ∧ t < W * H) (hf : gi fr t = false) : gi (partsF W H fr) t = -1 :=
  ((partsOk_p hm hl).2 t ht.1 ht.2).2 hf
/-- The first tile of a tile's sector. -/
def cor (W v : Int) : Int := v % W / 8 * 8 + W * (v / W / 8 * 8)
theorem cor_ok {W H v : Int} (hm : May W H) (hv : 0 ≤ v ∧ v < W * H) : 0 ≤ cor W v ∧ cor W v ≤ v ∧ cor W v % W % 8 = 0 ∧ cor W v / W % 8 = 0 ∧ atS W (cor W v) = atS W v := by
  have hW := hm.1
  have hd := divmod hW.1 hv.1
  have h1 := dm_of (W := W) (a := cor W v) (i := v % W / 8 * 8) (j := v / W / 8 * 8) (by omega) (by omega) rfl
  have h2 := Int.mul_le_mul_of_nonneg_left (show v / W / 8 * 8 ≤ v / W by omega) (show 0 ≤ W by omega)
  have h3 := Int.mul_nonneg (show 0 ≤ W by omega) (show 0 ≤ v / W / 8 * 8 by omega)
  refine ⟨by unfold cor; omega, by unfold cor; omega, by rw [h1.1]; omega, by rw [h1.2]; omega, ?_⟩
  unfold atS
  rw [h1.1, h1.2, show v % W / 8 * 8 / 8 = v % W / 8 by omega, show v / W / 8 * 8 / 8 = v / W / 8 by omega]
theorem ofV_in {W H t : Int} (hm : May W H) (ht : 0 ≤ t ∧ t < W * H) : ofE W H t = 0 ∧ ofV W H t = atS W t := by
  unfold ofE ofV
  rw [if_pos hm, if_pos ht, if_pos ⟨hm, ht⟩]; exact ⟨rfl, rfl⟩
theorem whole_law {p : Ask} (hp : p.Wf) (hF : p.Free.length ≤ 9223372036854775807) : thronglaw10_SectorWhole p = some true := by
  obtain ⟨fr, hfr⟩ : ∃ fr, fr = p.Free := ⟨_, rfl⟩
  unfold thronglaw10_SectorWhole
  rw [heavy_p, bsome]
  refine Ok.eq (Ok.ite (fun _ => Ok.ret rfl) (fun hh => ?_))
  rw [parts_p, bsome]
  by_cases hc : May p.W p.H ∧ (p.Free.length : Int) = p.W * p.H
  rotate_left
  · simp only [if_neg hc, num_p, bsome]
    rw [if_pos (by simp)]; exact Ok.ret rfl
  simp only [if_pos hc, num_p, bsome]
  rw [if_neg (by simp)]
  obtain ⟨hm, hl⟩ := hc
  have hb := may_bd hm
  have hW := hm.1
  have hH := hm.2
  have hpl := len_partsF (W := p.W) (H := p.H) (fr := p.Free) (by omega)
  refine Ok.gd (by unfold I64; omega) ?_
  rw [if_neg (by omega)]
  refine Ok.gd (by omega) ?_
  refine Ok.bind (R := fun x => x = Ex.go (partsF p.W p.H p.Free)) (Ok.loop (fun z : Int × List Int => 0 ≤ z.1 ∧ z.1 ≤ p.W * p.H ∧ (z.2.length : Int) = p.W * p.H ∧ ∀ v, 0 ≤ v → v < p.W * p.H → cor p.W v < z.1 → gi z.2 v = gi (partsF p.W p.H p.Free) v) (fun z => (p.W * p.H - z.1).toNat) ⟨by simp, by simp; omega, by simp; omega, fun v v0 v1 hv => ?_⟩ (by unfold FUEL; simp; omega) ?_) (fun x hx => ?_)
  · have := (cor_ok hm ⟨v0, v1⟩).1; simp at hv; omega
  · rintro ⟨t, q⟩ ⟨h0, h1, h2, h3⟩
    try dsimp only at h0 h1 h2 h3 ⊢
    refine Ok.ite (fun hlt => ?_) (fun hlt => Ok.ret ?_)
    rotate_left
    · show Ex.go q = _
      congr 1
      refine ext_gi (by omega) fun i i0 i1 => h3 i i0 (by omega) ?_
      have := (cor_ok hm (v := i) ⟨i0, by omega⟩).2.1; omega
    have htin : 0 ≤ t ∧ t < p.W * p.H := by omega
    obtain ⟨e1, e2⟩ := ofV_in hm htin
    have hd := divmod hW.1 h0
    rw [of_p (by unfold I64; omega), bsome]
    simp only [e1, e2]
    refine Ok.gd (by omega) (Ok.gd (by omega) (Ok.gd (by omega) ?_))
    have hfl : gi (partsF p.W p.H p.Free) t ≤ t ∧ decide (0 ≤ gi (partsF p.W p.H p.Free) t) = gi p.Free t := by
      cases hf : gi p.Free t with
      | true => have := wh_free hm hl htin hf; exact ⟨this.2.1, decide_eq_true this.1⟩
      | false => have := wh_not hm hl htin hf; rw [this]; exact ⟨by omega, by decide⟩
    rw [if_neg (fun h => h.elim (fun h => h.elim (fun h => h trivial) (fun h => h hfl.2)) (fun h => by omega))]
    refine Ok.gd (by omega) (Ok.gd (by omega) (Ok.gd (by omega) (Ok.gd (by omega) ?_)))
    have fin : ∀ q' : List Int, (q'.length : Int) = p.W * p.H → (∀ v, 0 ≤ v → v < p.W * p.H → cor p.W v < t + 1 → gi q' v = gi (partsF p.W p.H p.Free) v) →
        (match (St.next ((t + 1), q') : St (Int × List Int) (Ex (List Int) Bool)) with
        | .next s' => (0 ≤ s'.1 ∧ s'.1 ≤ p.W * p.H ∧ (s'.2.length : Int) = p.W * p.H ∧ ∀ v, 0 ≤ v → v < p.W * p.H → cor p.W v < s'.1 → gi s'.2 v = gi (partsF p.W p.H p.Free) v) ∧ (p.W * p.H - s'.1).toNat < (p.W * p.H - t).toNat
        | .done b => b = Ex.go (partsF p.W p.H p.Free)) := fun q' hq1 hq2 =>
      ⟨⟨by show 0 ≤ t + 1; omega, by show t + 1 ≤ _; omega, hq1, hq2⟩, by show (p.W * p.H - (t + 1)).toNat < _; omega⟩
    refine Ok.bind (R := fun x => ∃ q', x = Ex.go q' ∧ (q'.length : Int) = p.W * p.H ∧ ∀ v, 0 ≤ v → v < p.W * p.H → cor p.W v < t + 1 → gi q' v = gi (partsF p.W p.H p.Free) v) ?_ ?_
    · refine Ok.ite (fun hcor => ?_) (fun hcor => Ok.ret ⟨q, rfl, h2, fun v v0 v1 hv => ?_⟩)
      · have hE : redoE p.W p.H p.Free q t = 0 := by unfold redoE; rw [if_pos ⟨hm, hl, h2⟩, if_pos htin]
        rw [redoX_p (by omega) (by unfold I64; omega), bsome]
        simp only [hE, if_true, bsome, not_true_eq_false, if_false]
        refine Ok.ret ⟨_, rfl, len_redoF (by omega), fun v v0 v1 hv => ?_⟩
        unfold redoF
        rw [gi_tab ⟨v0, v1⟩]
        split
        · unfold partsF; rw [gi_tab ⟨v0, v1⟩]
        · rename_i hne
          have hk := cor_ok hm ⟨v0, v1⟩
          refine h3 v v0 v1 ?_
          by_cases hcv : cor p.W v = t
          · rw [hcv] at hk; exact absurd hk.2.2.2.2.symm hne
          · omega
      · have hk := cor_ok hm ⟨v0, v1⟩
        refine h3 v v0 v1 ?_
        by_cases hcv : cor p.W v = t
        · rw [hcv] at hk; exact absurd ⟨hk.2.2.1, hk.2.2.2.1⟩ hcor
        · omega
    · rintro x ⟨q', rfl, hq1, hq2⟩
      show Ok (if _ then _ else _) _
      refine Ok.gd (by omega) ?_
      refine Ok.ite (fun hnf => Ok.gd (by unfold I64; omega) (Ok.ret (fin q' hq1 hq2))) (fun hnf => ?_)
      have hf : gi p.Free t = true := by simpa using hnf
      obtain ⟨f1, f2, f3, f4, f5⟩ := wh_free hm hl htin hf
      obtain ⟨g1, g2⟩ := ofV_in hm (t := gi (partsF p.W p.H p.Free) t) (by omega)
      refine Ok.gd (by omega) ?_
      rw [of_p (by unfold I64; omega), bsome]
      simp only [g1, g2]
      refine Ok.gd (fun _ => by omega) (Ok.gd (fun _ => by omega) (Ok.gd (fun _ => by omega) ?_))
      rw [if_neg (fun h => h.elim (fun h => h.elim (fun h => h trivial) (fun h => h f3)) (fun h => h f4))]
      refine Ok.gd (by unfold I64; omega) (Ok.gd (by omega) (Ok.gd (by unfold I64; omega) ?_))
      have n1 : t % p.W < p.W - 1 → nbr p.W p.H t (t + 1) := fun h => .inr (.inl ⟨rfl, h⟩)
      have n2 : t / p.W < p.H - 1 → nbr p.W p.H t (t + p.W) := fun h => .inr (.inr (.inl ⟨rfl, h⟩))
      refine Ok.gd (fun h => by have := nbr_in hW.1 htin (n1 h); omega) ?_
      have side : ∀ (c : Prop) [Decidable c] (u : Int), I64 u → (c → nbr p.W p.H t u) → Ok (if c ∧ gi p.Free u = true then Option.bind (thronglaw10_same p u (atS p.W t)) fun x96 => some x96 else some false) (fun b => b = true → Adj p.W p.H p.Free t u) := fun c _ u hu hn => by
        refine Ok.ite (fun hcu => ?_) (fun _ => Ok.ret (by simp))
        rw [same_p hu, bsome]
        refine Ok.ret fun hd => ?_
        have hin := nbr_in hW.1 htin (hn hcu.1)
        obtain ⟨k1, k2⟩ := ofV_in hm hin
        rw [k1, k2] at hd
        have := of_decide_eq_true hd
        exact ⟨htin, hf, hcu.2, this.2, hn hcu.1⟩
      refine Ok.bind (side _ (t + 1) (by unfold I64; omega) n1) fun b hb1 => ?_
      refine Ok.gd (fun h => by have := nbr_in hW.1 htin (hb1 h).2.2.2.2; omega) (Ok.gd (fun _ => by omega) ?_)
      rw [if_neg (fun h => h.2 (f5 _ (hb1 h.1)))]
      refine Ok.gd (by unfold I64; omega) (Ok.gd (by omega) (Ok.gd (by unfold I64; omega) ?_))
      refine Ok.gd (fun h => by have := nbr_in hW.1 htin (n2 h); omega) ?_
      refine Ok.bind (side _ (t + p.W) (by unfold I64; omega) n2) fun b2 hb2 => ?_
      refine Ok.gd (fun h => by have := nbr_in hW.1 htin (hb2 h).2.2.2.2; omega) (Ok.gd (fun _ => by omega) ?_)
      rw [if_neg (fun h => h.2 (f5 _ (hb2 h.1)))]
      exact Ok.gd (by unfold I64; omega) (Ok.ret (fin q' hq1 hq2))
  · subst hx
    simp only [Ex.then]
    rw [eqN_p (by omega), bsome]
    simp only [decide_true, if_true]
    rw [wakes_p]
    exact Ok.ret rfl
end Go.Proofs.Ytacpdjccbadomaa
