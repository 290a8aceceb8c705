/-
  The page's own parts are the parts: what is free takes the least number of those beside it till nothing turns. For sides from 1 to 128 and one bool for each tile.
-/
import Derived.Test.YtacpdjccbadomaaSJ
set_option linter.unusedVariables false
namespace Go.Proofs.Ytacpdjccbadomaa
open Go.Vg Sp Ff
namespace Sp
/-- All numbers together. -/
def tot (p : List Int) : Nat := (p.map fun x => (x + 1).toNat).sum
theorem tot_si {p : List Int} {t x : Int} (ht : 0 ≤ t ∧ t < p.length) : tot (si p t x) + (gi p t + 1).toNat = tot p + (x + 1).toNat := by
  have hl : t.toNat < p.length := by omega
  have e : p = p.take t.toNat ++ gi p t :: p.drop (t.toNat + 1) := by
    have h1 : gi p t = p[t.toNat] := by simp [gi, List.getD, List.getElem?_eq_getElem hl]
    rw [h1, List.getElem_cons_drop, List.take_append_drop]
  have e2 : si p t x = p.take t.toNat ++ x :: p.drop (t.toNat + 1) := by
    unfold si; rw [List.set_eq_take_append_cons_drop, if_pos hl]
  have e3 : tot p = ((p.take t.toNat).map fun x => (x + 1).toNat).sum + ((gi p t + 1).toNat + ((p.drop (t.toNat + 1)).map fun x => (x + 1).toNat).sum) := by
    conv => lhs; rw [e]
    unfold tot; simp
  rw [e2, e3]
  unfold tot; simp; omega
theorem tot_le {p : List Int} {B : Nat} (h : ∀ x ∈ p, (x + 1).toNat ≤ B) : tot p ≤ p.length * B := by
  induction p with
  | nil => simp [tot]
  | cons a p ih =>
    have h1 := h a (by simp)
    have h2 := ih (fun x hx => h x (by simp [hx]))
    have e : tot (a :: p) = (a + 1).toNat + tot p := by simp [tot]
    rw [e, List.length_cons, Nat.add_mul]; omega
/-- Labels: reached, no greater than the tile. -/
def LI (W H : Int) (fr : List Bool) (p : List Int) : Prop := (p.length : Int) = W * H ∧ ∀ v, 0 ≤ v → v < W * H → (gi fr v = true → Rch (Adj W H fr) v (gi p v) ∧ 0 ≤ gi p v ∧ gi p v ≤ v) ∧ (gi fr v = false → gi p v = -1)
def RestOk (W H : Int) (fr : List Bool) (p : List Int) : Prop := ∀ v u, Adj W H fr v u → gi p v ≤ gi p u
theorem LI.tot_le {W H : Int} {fr : List Bool} {p : List Int} (hm : May W H) (h : LI W H fr p) : tot p ≤ 268451840 := by
  have hb := may_bd hm
  have h1 : ∀ x ∈ p, (x + 1).toNat ≤ 16384 := fun x hx => by
    obtain ⟨i, hi, rfl⟩ := List.getElem_of_mem hx
    have hl := h.1
    have e : gi p (i : Int) = p[i] := by rw [gi_nat]; simp [List.getD, List.getElem?_eq_getElem hi]
    have := h.2 (i : Int) (by omega) (by omega)
    rw [e] at this
    cases hf : gi fr (i : Int) with
    | true => have := (this.1 hf).2; omega
    | false => have := this.2 hf; omega
  have h2 := Sp.tot_le h1
  have h3 : p.length ≤ 16384 := by have := h.1; omega
  have := Nat.mul_le_mul_right 16384 h3
  omega
theorem LI.done {W H : Int} {fr : List Bool} {p : List Int} (hm : May W H) (h : LI W H fr p) (hr : RestOk W H fr p) : PartsOk W H fr p := by
  refine ⟨h.1, fun v v0 v1 => ⟨fun hf => ?_, (h.2 v v0 v1).2⟩⟩
  have key := Lab.rest (A := Adj W H fr) (p := fun t => if (0 ≤ t ∧ t < W * H) ∧ gi fr t = true then gi p t else t) (fun t => by
    try dsimp only
    split
    · rename_i hc
      have := (h.2 t hc.1.1 hc.1.2).1 hc.2
      exact ⟨this.1, this.2.2⟩
    · exact ⟨.refl t, Int.le_refl t⟩) (fun a b hab => by
    have hba := Adj.symm hm.1.1 a b hab
    try dsimp only
    rw [if_pos ⟨hba.1, hba.2.1⟩, if_pos ⟨hab.1, hab.2.1⟩]
    exact hr b a hba) (Adj.symm hm.1.1) v
  try dsimp only at key
  rw [if_pos ⟨⟨v0, v1⟩, hf⟩] at key
  exact key
theorem LI.put {W H t u : Int} {fr : List Bool} {p : List Int} (hm : May W H) (h : LI W H fr p) (ha : Adj W H fr t u) (hlt : gi p u < gi p t) : LI W H fr (si p t (gi p u)) ∧ tot (si p t (gi p u)) < tot p := by
  have hu := Adj.symm hm.1.1 t u ha
  have htp : 0 ≤ t ∧ t < p.length := by have := h.1; have := ha.1; omega
  obtain ⟨r1, r2, r3⟩ := (h.2 u hu.1.1 hu.1.2).1 hu.2.1
  obtain ⟨q1, q2, q3⟩ := (h.2 t ha.1.1 ha.1.2).1 ha.2.1
  refine ⟨⟨by rw [len_si]; exact h.1, fun v v0 v1 => ?_⟩, ?_⟩
  · by_cases hv : t = v
    · subst hv
      rw [gi_si_self htp]
      exact ⟨fun _ => ⟨(Rch.one ha).trans r1, r2, by omega⟩, fun hf => by have := ha.2.1; rw [hf] at this; exact absurd this (by simp)⟩
    · rw [gi_si_ne htp.1 v0 hv]; exact h.2 v v0 v1
  · have := tot_si (x := gi p u) htp
    omega
end Sp
theorem partsR_ok {W H : Int} {fr : List Bool} (hm : May W H) (hl : (fr.length : Int) = W * H) : Ok (throngref10_Parts W H fr) (PartsOk W H fr) := by
  have hb := may_bd hm
  have hn : ((W * H).toNat : Int) = W * H := by omega
  have hW := hm.1
  have hH := hm.2
  unfold throngref10_Parts
  rw [if_pos (by unfold I64; omega), if_pos (by omega)]
  refine Ok.bind (R := fun p => LI W H fr p) (Ok.loop (fun z : Int × List Int => 0 ≤ z.1 ∧ z.1 ≤ W * H ∧ (z.2.length : Int) = W * H ∧ ∀ v, 0 ≤ v → v < z.1 → gi z.2 v = if gi fr v = true then v else -1) (fun z => (W * H - z.1).toNat) ⟨by simp, by simp; omega, by simp; omega, fun v v0 v1 => by simp at v1; omega⟩ (by unfold FUEL; simp; omega) ?_) (fun p hp => ?_)
  · rintro ⟨t, p⟩ ⟨h0, h1, h2, h3⟩
    try dsimp only at h0 h1 h2 h3 ⊢
    have hpt : t < W * H → 0 ≤ t ∧ t < p.length := fun h => by omega
    have inv : t < W * H → ∀ x, x = (if gi fr t = true then t else -1) → ∀ v, 0 ≤ v → v < t + 1 → gi (si p t x) v = if gi fr v = true then v else -1 := fun ht x hx v v0 v1 => by
      by_cases hv : t = v
      · subst hv; rw [gi_si_self (hpt ht), hx]
      · rw [gi_si_ne h0 v0 hv]; exact h3 v v0 (by omega)
    refine Ok.ite (fun hlt => ?_) (fun hlt => Ok.ret ?_)
    · have hlt' : t < W * H := by omega
      refine Ok.gd ⟨h0, hlt⟩ (Ok.gd ⟨h0, by omega⟩ (Ok.ite (fun hf => Ok.gd ⟨h0, hlt⟩ (Ok.gd (by unfold I64; omega) (Ok.ret ⟨⟨by show 0 ≤ t + 1; omega, by show t + 1 ≤ _; omega, by show ((si (si p t (-1)) t t).length : Int) = _; rw [len_si, len_si]; exact h2, fun v v0 v1 => ?_⟩, by show (W * H - (t + 1)).toNat < (W * H - t).toNat; omega⟩))) (fun hf => Ok.gd (by unfold I64; omega) (Ok.ret ⟨⟨by show 0 ≤ t + 1; omega, by show t + 1 ≤ _; omega, by show ((si p t (-1)).length : Int) = _; rw [len_si]; exact h2, ?_⟩, by show (W * H - (t + 1)).toNat < (W * H - t).toNat; omega⟩))))
      · have e : si (si p t (-1)) t t = si p t t := by unfold si; rw [List.set_set]
        show gi (si (si p t (-1)) t t) v = _
        rw [e]; exact inv hlt' t (by rw [if_pos hf]) v v0 v1
      · exact inv hlt' (-1) (by rw [if_neg hf])
    · refine ⟨h2, fun v v0 v1 => ?_⟩
      rw [h3 v v0 (by omega)]
      exact ⟨fun hf => by rw [if_pos hf]; exact ⟨.refl v, v0, Int.le_refl v⟩, fun hf => by rw [hf]; rfl⟩
  refine Ok.bind (R := fun p => PartsOk W H fr p) (Ok.loop (fun z : Bool × List Int => LI W H fr z.2 ∧ (z.1 = false → RestOk W H fr z.2)) (fun z => 2 * tot z.2 + (if z.1 = true then 1 else 0)) ⟨hp, by simp⟩ (by have := hp.tot_le hm; unfold FUEL; simp; omega) ?_) (fun q hq => Ok.ret hq)
  rintro ⟨again, p⟩ ⟨hli, hrest⟩
  try dsimp only at hli hrest ⊢
  refine Ok.ite (fun hag => ?_) (fun hag => Ok.ret (hli.done hm (hrest (by simpa using hag))))
  refine Ok.bind (R := fun z : Bool × List Int => LI W H fr z.2 ∧ (z.1 = false → z.2 = p ∧ RestOk W H fr p) ∧ (z.1 = true → tot z.2 < tot p)) ?_ (fun z hz => ?_)
  · refine Ok.loop (fun z : Bool × Int × List Int => 0 ≤ z.2.1 ∧ z.2.1 ≤ W * H ∧ LI W H fr z.2.2 ∧ (z.1 = false → z.2.2 = p ∧ ∀ v u, v < z.2.1 → Adj W H fr v u → gi p v ≤ gi p u) ∧ (z.1 = true → tot z.2.2 < tot p)) (fun z => (W * H - z.2.1).toNat) ⟨by simp, by simp; omega, hli, fun _ => ⟨rfl, fun v u hv ha => by have := ha.1.1; simp at hv; omega⟩, by simp⟩ (by unfold FUEL; simp; omega) ?_
    rintro ⟨ag, t, q⟩ ⟨h0, h1, h2, h3, h4⟩
    try dsimp only at h0 h1 h2 h3 h4 ⊢
    have hql := h2.1
    refine Ok.ite (fun hlt => ?_) (fun hlt => Ok.ret ⟨h2, fun ha => ⟨(h3 ha).1, fun v u huv => (h3 ha).2 v u (by have := huv.1.2; omega) huv⟩, h4⟩)
    have hlt' : t < W * H := by omega
    refine Ok.gd ⟨h0, by omega⟩ (Ok.ite (fun hf => Ok.gd (by unfold I64; omega) (Ok.ret ⟨⟨by show 0 ≤ t + 1; omega, by show t + 1 ≤ _; omega, h2, fun ha => ⟨(h3 ha).1, fun v u hv huv => ?_⟩, h4⟩, by show (W * H - (t + 1)).toNat < (W * H - t).toNat; omega⟩)) (fun hf => ?_))
    · by_cases hvt : v = t
      · subst hvt; have := huv.2.1; rw [this] at hf; simp at hf
      · exact (h3 ha).2 v u (by have : v < t + 1 := hv; omega) huv
    have hft : gi fr t = true := by simpa using hf
    rw [beside_p hW hH ⟨h0, by omega⟩, bsome]
    obtain ⟨L, hL⟩ : ∃ L, L = bs4 W H t := ⟨_, rfl⟩
    rw [← hL]
    have hmem : ∀ i : Int, 0 ≤ i → i < L.length → nbr W H t (gi L i) := fun i i0 i1 => mem_bs4.1 (hL ▸ gi_mem ⟨i0, i1⟩)
    have hLl : L.length ≤ 4 := by
      have := len_bs3 W H t
      rw [hL]; unfold bs4; rw [List.length_append]; split <;> simp <;> omega
    refine Ok.bind (R := fun z : Bool × List Int => LI W H fr z.2 ∧ (z.1 = false → z.2 = p ∧ ∀ v u, v < t + 1 → Adj W H fr v u → gi p v ≤ gi p u) ∧ (z.1 = true → tot z.2 < tot p)) ?_ (fun z hz => ?_)
    · refine Ok.loop (fun z : Bool × Int × List Int => 0 ≤ z.2.1 ∧ z.2.1 ≤ L.length ∧ LI W H fr z.2.2 ∧ (z.1 = false → z.2.2 = p ∧ (∀ v u, v < t → Adj W H fr v u → gi p v ≤ gi p u) ∧ ∀ j : Int, 0 ≤ j → j < z.2.1 → Adj W H fr t (gi L j) → gi p t ≤ gi p (gi L j)) ∧ (z.1 = true → tot z.2.2 < tot p)) (fun z => (L.length - z.2.1).toNat) ⟨by simp, by simp, h2, fun ha => ⟨(h3 ha).1, (h3 ha).2, fun j j0 j1 => by simp at j1; omega⟩, h4⟩ (by unfold FUEL; simp; omega) ?_
      rintro ⟨ag2, i, q2⟩ ⟨g0, g1, g2, g3, g4⟩
      try dsimp only at g0 g1 g2 g3 g4 ⊢
      have hq2 := g2.1
      refine Ok.ite (fun hil => ?_) (fun hil => Ok.ret ⟨g2, fun ha => ⟨(g3 ha).1, fun v u hv huv => ?_⟩, g4⟩)
      · have hnb := hmem i g0 hil
        have hin := nbr_in hW.1 ⟨h0, hlt'⟩ hnb
        obtain ⟨u, hu⟩ : ∃ u, u = gi L i := ⟨_, rfl⟩
        rw [← hu] at hnb hin ⊢
        refine Ok.gd ⟨g0, hil⟩ (Ok.gd ⟨hin.1, by omega⟩ ?_)
        refine Ok.bind (R := fun b => b = true ↔ Adj W H fr t u) ?_ (fun b hb => ?_)
        · refine Ok.ite (fun hfu => Ok.gd ⟨g0, hil⟩ ?_) (fun hfu => Ok.ret ⟨fun h => by simp at h, fun h => absurd h.2.2.1 hfu⟩)
          rw [ofR_p hW (by omega), bsome, ofR_p hW (by omega), bsome]
          refine Ok.ret ?_
          rw [decide_eq_true_iff]
          exact ⟨fun h => ⟨⟨h0, hlt'⟩, hft, hfu, h, hnb⟩, fun h => h.2.2.2.1⟩
        · refine Ok.gd (fun _ => ⟨g0, hil⟩) (Ok.gd (fun _ => ⟨hin.1, by omega⟩) (Ok.gd (fun _ => ⟨h0, by omega⟩) (Ok.ite (fun hc => ?_) (fun hc => ?_))))
          · have ha := hb.1 hc.1
            obtain ⟨k1, k2⟩ := g2.put hm ha hc.2
            refine Ok.gd ⟨g0, hil⟩ (Ok.gd ⟨hin.1, by omega⟩ (Ok.gd ⟨h0, by omega⟩ (Ok.gd (by unfold I64; omega) (Ok.ret ⟨⟨by show 0 ≤ i + 1; omega, by show i + 1 ≤ _; omega, k1, (fun h => by cases h), fun _ => ?_⟩, by show ((L.length : Int) - (i + 1)).toNat < (L.length - i).toNat; omega⟩))))
            show tot (si q2 t (gi q2 u)) < tot p
            cases ag2 with
            | true => have := g4 rfl; omega
            | false => rw [(g3 rfl).1] at k2 ⊢; exact k2
          · refine Ok.gd (by unfold I64; omega) (Ok.ret ⟨⟨by show 0 ≤ i + 1; omega, by show i + 1 ≤ _; omega, g2, fun ha => ⟨(g3 ha).1, (g3 ha).2.1, fun j j0 j1 hj => ?_⟩, g4⟩, by show ((L.length : Int) - (i + 1)).toNat < (L.length - i).toNat; omega⟩)
            by_cases hji : j = i
            · subst hji
              rw [← hu] at hj ⊢
              have : ¬ (gi q2 u < gi q2 t) := fun h => hc ⟨hb.2 hj, h⟩
              rw [(g3 ha).1] at this
              omega
            · exact (g3 ha).2.2 j j0 (by have : j < i + 1 := j1; omega) hj
      · by_cases hvt : v = t
        · subst hvt
          have hub := mem_bs4.2 huv.2.2.2.2
          rw [← hL] at hub
          obtain ⟨j, hj, hje⟩ := List.getElem_of_mem hub
          have hju : gi L (j : Int) = u := by rw [gi_nat]; simp [List.getD, List.getElem?_eq_getElem hj, hje]
          have := (g3 ha).2.2 (j : Int) (by omega) (by omega)
          rw [hju] at this
          exact this huv
        · exact (g3 ha).2.1 v u (by have : v < t + 1 := hv; omega) huv
    · obtain ⟨k1, k2, k3⟩ := hz
      exact Ok.gd (by unfold I64; omega) (Ok.ret ⟨⟨by show 0 ≤ t + 1; omega, by show t + 1 ≤ _; omega, k1, k2, k3⟩, by show (W * H - (t + 1)).toNat < (W * H - t).toNat; omega⟩)
  · obtain ⟨k1, k2, k3⟩ := hz
    refine Ok.ret ⟨⟨k1, fun h => by rw [(k2 h).1]; exact (k2 h).2⟩, ?_⟩
    show 2 * tot z.2 + (if z.1 = true then 1 else 0) < 2 * tot p + (if again = true then 1 else 0)
    rw [if_pos hag]
    cases hz1 : z.1 with
    | true => have := k3 hz1; simp; omega
    | false => rw [(k2 hz1).1]; simp
theorem partsR_p {W H : Int} {fr : List Bool} (hm : May W H) (hl : (fr.length : Int) = W * H) : throngref10_Parts W H fr = some (partsF W H fr) := by
  obtain ⟨r, e, hr⟩ := partsR_ok hm hl
  rw [e, parts_eq hr]
theorem partsOk_p {W H : Int} {fr : List Bool} (hm : May W H) (hl : (fr.length : Int) = W * H) : PartsOk W H fr (partsF W H fr) := by
  obtain ⟨r, e, hr⟩ := partsR_ok hm hl
  rw [← parts_eq hr]; exact hr
theorem redoR_p {W H t : Int} {fr : List Bool} {p : List Int} (hm : May W H) (hl : (fr.length : Int) = W * H) (hp : (p.length : Int) = W * H) (ht : 0 ≤ t ∧ t < W * H) : throngref10_Redo W H fr p t = some (redoF W H fr p (atS W t)) := by
  have hb := may_bd hm
  unfold throngref10_Redo
  rw [partsR_p hm hl, bsome, copyN_p (by omega), bsome]
  have hpl := len_partsF (W := W) (H := H) (fr := fr) (by omega)
  refine Ok.eq (Ok.bind (R := fun x => x = redoF W H fr p (atS W t)) (Ok.loop (fun z : Int × List Int => 0 ≤ z.1 ∧ z.1 ≤ W * H ∧ z.2.length = p.length ∧ ∀ v, 0 ≤ v → v < W * H → gi z.2 v = if v < z.1 ∧ atS W v = atS W t then partF W H fr v else gi p v) (fun z => (W * H - z.1).toNat) ⟨by simp, by simp; omega, rfl, fun v v0 v1 => by rw [if_neg (by simp; omega)]⟩ (by unfold FUEL; simp; omega) ?_) (fun x hx => Ok.ret hx))
  rintro ⟨i, q⟩ ⟨h0, h1, h2, h3⟩
  try dsimp only at h0 h1 h2 h3 ⊢
  refine Ok.ite (fun hlt => ?_) (fun hlt => Ok.ret ?_)
  · rw [ofR_p hm.1 (by omega), bsome, ofR_p hm.1 (by omega), bsome]
    refine Ok.ite (fun he => Ok.gd ⟨h0, by omega⟩ (Ok.gd ⟨h0, hlt⟩ (Ok.gd (by unfold I64; omega) (Ok.ret ⟨⟨by show 0 ≤ i + 1; omega, by show i + 1 ≤ _; omega, by show (si q i _).length = _; rw [len_si]; exact h2, fun v v0 v1 => ?_⟩, by show (W * H - (i + 1)).toNat < (W * H - i).toNat; omega⟩)))) (fun he => Ok.gd (by unfold I64; omega) (Ok.ret ⟨⟨by show 0 ≤ i + 1; omega, by show i + 1 ≤ _; omega, h2, fun v v0 v1 => ?_⟩, by show (W * H - (i + 1)).toNat < (W * H - i).toNat; omega⟩))
    · show gi (si q i (gi (partsF W H fr) i)) v = if v < i + 1 ∧ _ then _ else _
      by_cases hv : i = v
      · subst hv
        rw [gi_si_self (by omega), if_pos ⟨by omega, he⟩]
        unfold partsF; rw [gi_tab ⟨v0, v1⟩]
      · rw [gi_si_ne h0 v0 hv, h3 v v0 v1]
        by_cases hvi : v < i ∧ atS W v = atS W t
        · rw [if_pos hvi, if_pos ⟨by omega, hvi.2⟩]
        · rw [if_neg hvi, if_neg (fun h => hvi ⟨by omega, h.2⟩)]
    · show gi q v = if v < i + 1 ∧ _ then _ else _
      rw [h3 v v0 v1]
      by_cases hvi : v < i ∧ atS W v = atS W t
      · rw [if_pos hvi, if_pos ⟨by omega, hvi.2⟩]
      · rw [if_neg hvi, if_neg (fun h => hvi ⟨by
          by_cases hv : v = i
          · subst hv; exact absurd h.2 he
          · omega, h.2⟩)]
  · have hr := len_redoF (W := W) (H := H) (fr := fr) (p := p) (s := atS W t) (by omega)
    refine ext_gi (by omega) fun v v0 v1 => ?_
    rw [h3 v v0 (by omega)]
    unfold redoF
    rw [gi_tab ⟨v0, by omega⟩]
    by_cases hv : atS W v = atS W t
    · rw [if_pos ⟨by omega, hv⟩, if_pos hv]
    · rw [if_neg (fun h => hv h.2), if_neg hv]
end Go.Proofs.Ytacpdjccbadomaa
