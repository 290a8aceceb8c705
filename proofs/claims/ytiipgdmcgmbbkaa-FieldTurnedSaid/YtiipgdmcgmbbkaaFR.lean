
/-
  Room, continued: the program's Room and the page's Grid, as pure functions. The conditions stand in each lemma.
-/
import Derived.Test.YtiipgdmcgmbbkaaFQ
set_option linter.unusedVariables false
set_option linter.unusedSimpArgs false
namespace Go.Proofs.Ytiipgdmcgmbbkaa
open Go.Vg
/-- What always holds of a table of room while it is reckoned. -/
structure KI0 (g : Grd) (o : List Bool) (k : List Int) : Prop where
  len : (k.length : Int) = g.w * g.h
  bd : ∀ j : Int, 0 ≤ j → j < g.w * g.h → 0 ≤ gi k j ∧ gi k j ≤ 128
  zero : ∀ j : Int, 0 ≤ j → j < g.w * g.h → ¬ gi o j = true → gi k j = 0
  sup : ∀ x y, On g x y → gi o (x + g.w * y) = true → gi k (x + g.w * y) = 128 ∨ ∃ dx dy, (-1 ≤ dx ∧ dx ≤ 1) ∧ (-1 ≤ dy ∧ dy ≤ 1) ∧ KP g k (x + dx) (y + dy) + 1 ≤ gi k (x + g.w * y)
theorem KP.le {g : Grd} (hg : GOk g) {k k' : List Int} (h : ∀ j : Int, 0 ≤ j → j < g.w * g.h → gi k' j ≤ gi k j) (x y : Int) : KP g k' x y ≤ KP g k x y := by
  by_cases ho : On g x y
  · rw [KP.on ho, KP.on ho]; have := ho.bd hg; exact h _ this.1.1 this.1.2
  · rw [KP.off ho, KP.off ho]; exact Int.le_refl _
theorem KI0.pass {g : Grd} {o : List Bool} {k k' : List Int} {t : Int} {ws : List Pr2} (hg : GOk g) (h : KI0 g o k) (ht : 0 ≤ t ∧ t < g.w * g.h) (hp : Pass g k k' t ws ws.length)
    (hws : ∀ i : Int, 0 ≤ i → i < ws.length → (-1 ≤ (gi ws i).a ∧ (gi ws i).a ≤ 1) ∧ (-1 ≤ (gi ws i).b ∧ (gi ws i).b ≤ 1)) : KI0 g o k' := by
  have hle : ∀ j : Int, 0 ≤ j → j < g.w * g.h → gi k' j ≤ gi k j := fun j j0 j1 => by
    by_cases hj : j = t
    · subst hj; exact hp.le
    · rw [hp.rest j j0 hj]; exact Int.le_refl _
  refine ⟨by rw [hp.len]; exact h.len, fun j j0 j1 => ?_, fun j j0 j1 hj => ?_, fun x y ho hop => ?_⟩
  · by_cases hj : j = t
    · subst hj; have := h.bd j j0 j1; have := hp.le; have := hp.nn; omega
    · rw [hp.rest j j0 hj]; exact h.bd j j0 j1
  · by_cases hjt : j = t
    · subst hjt; have := h.zero j j0 j1 hj; have := hp.le; have := hp.nn; omega
    · rw [hp.rest j j0 hjt]; exact h.zero j j0 j1 hj
  · have hb := ho.bd hg
    have old : ∀ v, v = gi k (x + g.w * y) → v = 128 ∨ ∃ dx dy, (-1 ≤ dx ∧ dx ≤ 1) ∧ (-1 ≤ dy ∧ dy ≤ 1) ∧ KP g k' (x + dx) (y + dy) + 1 ≤ v := fun v hv => by
      rcases h.sup x y ho hop with h1 | ⟨dx, dy, h1, h2, h3⟩
      · exact .inl (hv.trans h1)
      · exact .inr ⟨dx, dy, h1, h2, by have := KP.le hg hle (x + dx) (y + dy); omega⟩
    by_cases hj : x + g.w * y = t
    · have hxy := ho.xy
      rw [hj] at hxy ⊢
      rcases hp.why with h1 | ⟨i, hi, h1⟩
      · exact old _ (by rw [h1, hj])
      · refine .inr ⟨(gi ws i).a, (gi ws i).b, (hws i hi.1 hi.2).1, (hws i hi.1 hi.2).2, ?_⟩
        rw [hxy.1, hxy.2] at h1
        have := KP.le hg hle (x + (gi ws i).a) (y + (gi ws i).b)
        omega
    · rw [hp.rest _ hb.1.1 hj]; exact old _ rfl
theorem KI0.fin {g : Grd} {o : List Bool} {k k1 : List Int} (hg : GOk g) (h : KI0 g o k) (hk1 : (k1.length : Int) = g.w * g.h)
    (hc : ∀ x y a b, On g x y → F1 a b → KP g k1 x y ≤ KP g k1 (x + a) (y + b) + 1) (hf : ∀ x y a b, On g x y → F2 a b → KP g k x y ≤ KP g k (x + a) (y + b) + 1)
    (hle : ∀ x y, On g x y → KP g k x y ≤ KP g k1 x y) (hor : ∀ x y, On g x y → KP g k x y = KP g k1 x y ∨ ∃ a b, F2 a b ∧ KP g k x y = KP g k (x + a) (y + b) + 1) : KS g o k := by
  have hnn : ∀ x y, 0 ≤ KP g k x y := fun x y => by
    by_cases ho : On g x y
    · rw [KP.on ho]; have := ho.bd hg; exact (h.bd _ this.1.1 this.1.2).1
    · rw [KP.off ho]; exact Int.le_refl _
  have hch := chamfer (O := On g) (k := KP g k) (k1 := KP g k1) (fun x y ho => ⟨KP.off ho, KP.off ho⟩) hnn hc hf hle hor
  have lip : ∀ x y dx dy, On g x y → (-1 ≤ dx ∧ dx ≤ 1) → (-1 ≤ dy ∧ dy ≤ 1) → KP g k x y ≤ KP g k (x + dx) (y + dy) + 1 := fun x y dx dy ho h1 h2 => by
    have : (dx = 0 ∧ dy = 0) ∨ F1 dx dy ∨ F2 dx dy := by unfold F1 F2; omega
    rcases this with ⟨rfl, rfl⟩ | h3 | h3
    · rw [Int.add_zero, Int.add_zero]; omega
    · exact hch (KP g k (x + dx) (y + dy)).toNat x y dx dy ho h3 (by have := hnn (x + dx) (y + dy); omega)
    · exact hf x y dx dy ho h3
  have hup : ∀ (n : Nat) x y, On g x y → y = (n : Int) → KP g k x y ≤ y + 1 := by
    intro n
    induction n with
    | zero =>
      intro x y ho hy
      have h1 := lip x y 0 (-1) ho (by omega) (by omega)
      rw [KP.off (x := x + 0) (y := y + -1) (fun h => by unfold On at h; omega)] at h1
      omega
    | succ n ih =>
      intro x y ho hy
      have h1 := lip x y 0 (-1) ho (by omega) (by omega)
      have h2 := ih (x + 0) (y + -1) (by unfold On at ho ⊢; omega) (by omega)
      omega
  have h127 : ∀ x y, On g x y → KP g k x y ≤ 127 := fun x y ho => by
    have ho' := ho
    unfold On at ho'
    have g2 := hg.2.1
    by_cases hy : y ≤ 126
    · have := hup y.toNat x y ho (by omega); omega
    · have h1 := lip x y 0 1 ho (by omega) (by omega)
      rw [KP.off (x := x + 0) (y := y + 1) (fun h => by unfold On at h; omega)] at h1
      omega
  refine ⟨h.len, fun j j0 j1 => ?_, fun x y ho hop => ?_, lip, fun x y ho hop => ?_⟩
  · obtain ⟨ho, he⟩ := On.of hg ⟨j0, j1⟩
    have := h127 _ _ ho
    rw [KP.on ho, he] at this
    exact ⟨(h.bd j j0 j1).1, this⟩
  · rw [KP.on ho]; have := ho.bd hg; exact h.zero _ this.1.1 this.1.2 hop
  · have h7 := h127 x y ho
    rcases h.sup x y ho hop with h1 | ⟨dx, dy, h1, h2, h3⟩
    · rw [KP.on ho] at h7; omega
    · have := lip x y dx dy ho h1 h2
      rw [KP.on ho] at this ⊢
      exact ⟨dx, dy, h1, h2, by omega⟩
theorem room_b {g : Grd} {l : List Bld} {c : Int} (hg : GOk g) (hm : MOk g l) (hc : 0 ≤ c ∧ c ≤ 2) : Ok (clear_Room g l c) fun k => ∃ o, OpR g l c o ∧ KS g o k := by
  have ha := hg.area
  have hgl := hg.2.2.1
  have g1 := hg.1
  unfold clear_Room
  rw [if_pos (by omega)]
  refine Ok.bind (tilesO_b hg hm hc) fun o ho => ?_
  have hol := ho.1
  -- the table ahead of both passes
  refine Ok.bind (R := fun k => (k.length : Int) = g.w * g.h ∧ ∀ j : Int, 0 ≤ j → j < g.w * g.h → gi k j = if gi o j = true then 128 else 0) (Ok.loop (fun z : Int × List Int => (0 ≤ z.1 ∧ z.1 ≤ o.length) ∧ (z.2.length : Int) = g.w * g.h ∧ (∀ j : Int, 0 ≤ j → j < z.1 → gi z.2 j = if gi o j = true then 128 else 0) ∧ ∀ j : Int, z.1 ≤ j → j < g.w * g.h → gi z.2 j = 0) (fun z => (o.length - z.1).toNat)
    ⟨by simp, by simp; omega, fun j j0 j1 => (by have : j < 0 := j1; omega), fun j j0 j1 => gi_replicate ⟨j0, by omega⟩⟩ (by unfold FUEL; simp; omega) ?_) (fun k0 hk0 => ?_)
  · rintro ⟨v, k⟩ ⟨⟨v0, v1⟩, hl, h1, h2⟩
    dsimp only at v0 v1 hl h1 h2 ⊢
    refine Ok.ite (fun hlt => Ok.gd ⟨v0, hlt⟩ (Ok.ite (fun hop => Ok.gd (by omega) (Ok.gd (by unfold I64; omega) (Ok.ret ⟨⟨by show 0 ≤ v + 1 ∧ v + 1 ≤ _; omega, by show ((si k v 128).length : Int) = _; rw [len_si]; exact hl, fun j j0 j1 => ?_, fun j j0 j1 => ?_⟩, by show ((o.length : Int) - (v + 1)).toNat < _; omega⟩))) (fun hop => Ok.gd (by unfold I64; omega) (Ok.ret ⟨⟨by show 0 ≤ v + 1 ∧ v + 1 ≤ _; omega, hl, fun j j0 j1 => ?_, fun j j0 j1 => h2 j (by have : v + 1 ≤ j := j0; omega) j1⟩, by show ((o.length : Int) - (v + 1)).toNat < _; omega⟩)))) (fun hlt => Ok.ret ⟨hl, fun j j0 j1 => h1 j j0 (by omega)⟩)
    · show gi (si k v 128) j = _
      by_cases hj : j = v
      · subst hj; rw [gi_si_self ⟨v0, by omega⟩, if_pos hop]
      · rw [gi_si_ne v0 j0 (Ne.symm hj)]; exact h1 j j0 (by have : j < v + 1 := j1; omega)
    · show gi (si k v 128) j = 0
      rw [gi_si_ne v0 (by have : v + 1 ≤ j := j0; omega) (by have : v + 1 ≤ j := j0; omega)]; exact h2 j (by have : v + 1 ≤ j := j0; omega) j1
    · show gi k j = _
      by_cases hj : j = v
      · subst hj; rw [if_neg hop]; exact h2 j (Int.le_refl _) (by omega)
      · exact h1 j j0 (by have : j < v + 1 := j1; omega)
  obtain ⟨hk0l, hk0⟩ := hk0
  have hI0 : KI0 g o k0 := by
    refine ⟨hk0l, fun j j0 j1 => ?_, fun j j0 j1 hj => by rw [hk0 j j0 j1, if_neg hj], fun x y hon hop => .inl ?_⟩
    · rw [hk0 j j0 j1]; split <;> omega
    · have := hon.bd hg; rw [hk0 _ this.1.1 this.1.2, if_pos hop]
  have hN : ((g.tiles.length : Int).toNat : Int) = g.w * g.h := by omega
  rw [hN]
  have hwb1 : ∀ i : Int, 0 ≤ i → i < W1.length → (-1 ≤ (gi W1 i).a ∧ (gi W1 i).a ≤ 1) ∧ (-1 ≤ (gi W1 i).b ∧ (gi W1 i).b ≤ 1) := fun i i0 i1 => by have := (at_W1 (i := i) ⟨i0, i1⟩).bd; exact ⟨this.1, this.2.1⟩
  have hwb2 : ∀ i : Int, 0 ≤ i → i < W2.length → (-1 ≤ (gi W2 i).a ∧ (gi W2 i).a ≤ 1) ∧ (-1 ≤ (gi W2 i).b ∧ (gi W2 i).b ≤ 1) := fun i i0 i1 => by have := (at_W2 (i := i) ⟨i0, i1⟩).bd; exact ⟨this.1, this.2.1⟩
  have hm1 : ∀ w ∈ W1, (-1 ≤ w.a ∧ w.a ≤ 1) ∧ (-1 ≤ w.b ∧ w.b ≤ 1) ∧ ¬ (w.a = 0 ∧ w.b = 0) := fun w hw => by
    obtain ⟨i, i0, i1, rfl⟩ := gi_mem2.1 hw; exact (at_W1 (i := i) ⟨i0, i1⟩).bd
  have hm2 : ∀ w ∈ W2, (-1 ≤ w.a ∧ w.a ≤ 1) ∧ (-1 ≤ w.b ∧ w.b ≤ 1) ∧ ¬ (w.a = 0 ∧ w.b = 0) := fun w hw => by
    obtain ⟨i, i0, i1, rfl⟩ := gi_mem2.1 hw; exact (at_W2 (i := i) ⟨i0, i1⟩).bd
  -- ahead
  refine Ok.bind (R := fun k => KI0 g o k ∧ ∀ x y a b, On g x y → F1 a b → KP g k x y ≤ KP g k (x + a) (y + b) + 1) (Ok.loop (fun z : Int × List Int => (0 ≤ z.1 ∧ z.1 ≤ g.w * g.h) ∧ KI0 g o z.2 ∧ ∀ x y a b, On g x y → x + g.w * y < z.1 → F1 a b → KP g z.2 x y ≤ KP g z.2 (x + a) (y + b) + 1) (fun z => (g.w * g.h - z.1).toNat)
    ⟨by simp; omega, hI0, fun x y a b hon hlt _ => (by have := hon.bd hg; have : x + g.w * y < 0 := hlt; omega)⟩ (by unfold FUEL; simp; omega) ?_) (fun k1 hk1 => ?_)
  · rintro ⟨v, k⟩ ⟨⟨v0, v1⟩, hI, hq⟩
    dsimp only at v0 v1 hI hq ⊢
    refine Ok.ite (fun hlt => ?_) (fun hlt => Ok.ret ⟨hI, fun x y a b hon hf => hq x y a b hon (by have := hon.bd hg; omega) hf⟩)
    refine Ok.bind (pass_b (ws := W1) hg hI.len ⟨v0, hlt⟩ hm1 (by decide) (fun j j0 j1 => hI.bd j j0 (by have := hI.len; omega))) fun k' hp => ?_
    refine Ok.gd (by unfold I64; omega) (Ok.ret ⟨⟨by show 0 ≤ v + 1 ∧ v + 1 ≤ _; omega, hI.pass hg ⟨v0, hlt⟩ hp hwb1, fun x y a b hon hlt2 hf => ?_⟩, by show (g.w * g.h - (v + 1)).toNat < _; omega⟩)
    have hb := hon.bd hg
    have hlt2 : x + g.w * y < v + 1 := hlt2
    have nbr : KP g k' (x + a) (y + b) = KP g k (x + a) (y + b) := by
      by_cases hn : On g (x + a) (y + b)
      · have := hf.lt hon g1.1 hn
        rw [KP.on hn, KP.on hn, hp.rest _ (hn.bd hg).1.1 (by omega)]
      · rw [KP.off hn, KP.off hn]
    show KP g k' x y ≤ KP g k' (x + a) (y + b) + 1
    rw [nbr, KP.on hon]
    by_cases hv : x + g.w * y = v
    · obtain ⟨i, hi, e1, e2⟩ := W1_at hf
      have := hp.way i hi.1 (by have : (W1.length : Int) = 4 := rfl; omega)
      have hxy := hon.xy
      rw [hv] at hxy ⊢
      rw [hxy.1, hxy.2, e1, e2] at this
      exact this
    · rw [hp.rest _ hb.1.1 hv]
      have := hq x y a b hon (by omega) hf
      rw [KP.on hon] at this
      exact this
  obtain ⟨hI1, hc1⟩ := hk1
  rw [if_pos (by unfold I64; omega)]
  -- back
  refine Ok.bind (R := fun k => KS g o k) (Ok.loop (fun z : Int × List Int => (-1 ≤ z.1 ∧ z.1 < g.w * g.h) ∧ KI0 g o z.2 ∧ (∀ j : Int, 0 ≤ j → j ≤ z.1 → gi z.2 j = gi k1 j) ∧ ∀ x y, On g x y → z.1 < x + g.w * y → KP g z.2 x y ≤ KP g k1 x y ∧ (∀ a b, F2 a b → KP g z.2 x y ≤ KP g z.2 (x + a) (y + b) + 1) ∧ (KP g z.2 x y = KP g k1 x y ∨ ∃ a b, F2 a b ∧ KP g z.2 x y = KP g z.2 (x + a) (y + b) + 1)) (fun z => (z.1 + 1).toNat)
    ⟨by simp; omega, hI1, fun _ _ _ => rfl, fun x y hon hlt => (by have := hon.bd hg; have : g.w * g.h - 1 < x + g.w * y := hlt; omega)⟩ (by unfold FUEL; simp; omega) ?_) (fun k hk => Ok.ret ⟨o, ho, hk⟩)
  rintro ⟨v, k⟩ ⟨⟨v0, v1⟩, hI, hsame, hq⟩
  dsimp only at v0 v1 hI hsame hq ⊢
  refine Ok.ite (fun hlt => ?_) (fun hlt => Ok.ret ?_)
  · refine Ok.bind (pass_b (ws := W2) hg hI.len ⟨hlt, v1⟩ hm2 (by decide) (fun j j0 j1 => hI.bd j j0 (by have := hI.len; omega))) fun k' hp => ?_
    refine Ok.gd (by unfold I64; omega) (Ok.ret ⟨⟨by show -1 ≤ v - 1 ∧ v - 1 < _; omega, hI.pass hg ⟨hlt, v1⟩ hp hwb2, fun j j0 j1 => ?_, fun x y hon hlt2 => ?_⟩, by show (v - 1 + 1).toNat < (v + 1).toNat; omega⟩)
    · have : j ≤ v - 1 := j1
      show gi k' j = _
      rw [hp.rest j j0 (by omega)]; exact hsame j j0 (by omega)
    · have hb := hon.bd hg
      have hlt2 : v - 1 < x + g.w * y := hlt2
      have nbr : ∀ a b, F2 a b → KP g k' (x + a) (y + b) = KP g k (x + a) (y + b) := fun a b hf => by
        by_cases hn : On g (x + a) (y + b)
        · have := hf.lt hon g1.1 hn
          rw [KP.on hn, KP.on hn, hp.rest _ (hn.bd hg).1.1 (by omega)]
        · rw [KP.off hn, KP.off hn]
      show KP g k' x y ≤ _ ∧ (∀ a b, F2 a b → KP g k' x y ≤ KP g k' (x + a) (y + b) + 1) ∧ (KP g k' x y = _ ∨ ∃ a b, F2 a b ∧ KP g k' x y = KP g k' (x + a) (y + b) + 1)
      by_cases hv : x + g.w * y = v
      · have hxy := hon.xy
        have hkv := hsame v hlt (Int.le_refl _)
        have e1 : KP g k' x y = gi k' v := by rw [KP.on hon, hv]
        have e2 : KP g k1 x y = gi k v := by rw [KP.on hon, hv, hkv]
        rw [e1, e2]
        rw [hv] at hxy
        refine ⟨hp.le, fun a b hf => ?_, ?_⟩
        · obtain ⟨i, hi, e3, e4⟩ := W2_at hf
          have := hp.way i hi.1 (by have : (W2.length : Int) = 4 := rfl; omega)
          rw [hxy.1, hxy.2, e3, e4] at this
          rw [nbr a b hf]; exact this
        · rcases hp.why with h | ⟨i, hi, h⟩
          · exact .inl h
          · have hf := at_W2 (i := i) ⟨hi.1, by have : (W2.length : Int) = 4 := rfl; omega⟩
            rw [hxy.1, hxy.2] at h
            exact .inr ⟨_, _, hf, by rw [nbr _ _ hf]; exact h⟩
      · obtain ⟨q1, q2, q3⟩ := hq x y hon (by omega)
        have e1 : KP g k' x y = KP g k x y := by rw [KP.on hon, KP.on hon, hp.rest _ hb.1.1 hv]
        rw [e1]
        refine ⟨q1, fun a b hf => by rw [nbr a b hf]; exact q2 a b hf, ?_⟩
        rcases q3 with h | ⟨a, b, hf, h⟩
        · exact .inl h
        · exact .inr ⟨a, b, hf, by rw [nbr a b hf]; exact h⟩
  · have hv : v = -1 := by omega
    subst hv
    exact hI.fin hg hI1.len hc1 (fun x y a b hon hf => (hq x y hon (by have := hon.bd hg; omega)).2.1 a b hf) (fun x y hon => (hq x y hon (by have := hon.bd hg; omega)).1) (fun x y hon => (hq x y hon (by have := hon.bd hg; omega)).2.2)
end Go.Proofs.Ytiipgdmcgmbbkaa
