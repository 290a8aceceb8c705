
/-
  The page's Grid is the program's Room; good tiles. The conditions stand in each lemma.
-/
import Derived.Test.YtiipgdmcgmbbkaaFR
set_option linter.unusedVariables false
set_option linter.unusedSimpArgs false
namespace Go.Proofs.Ytiipgdmcgmbbkaa
open Go.Vg
/-- A tile keeps room for one round more just where all beside keep room for this one. -/
theorem KS.more {g : Grd} {o : List Bool} {k : List Int} (hg : GOk g) (h : KS g o k) {t r : Int} (ht : 0 ≤ t ∧ t < g.w * g.h) (hr : 0 ≤ r) (hk : r < gi k t) : r + 1 < gi k t ↔ ∀ i : Int, 0 ≤ i → i < 8 → ¬ nb g t i < 0 ∧ r < gi k (nb g t i) := by
  obtain ⟨ho, he⟩ := On.of hg ht
  have hkt : KP g k (t % g.w) (t / g.w) = gi k t := by rw [KP.on ho, he]
  constructor
  · intro hlt i i0 i1
    have hd := dd_bd ⟨i0, i1⟩
    have hl := h.lip _ _ (DX i) (DY i) ho hd.1 hd.2.1
    rw [hkt] at hl
    have hon : On g (t % g.w + DX i) (t / g.w + DY i) := Classical.byContradiction fun hn => by rw [KP.off hn] at hl; omega
    have hb := hon.bd hg
    rw [KP.on hon] at hl
    unfold nb
    rw [if_pos hon]
    exact ⟨by omega, by omega⟩
  · intro hall
    have hop : gi o t = true := Classical.byContradiction fun hn => by
      have := h.zero _ _ ho (by rw [he]; exact hn)
      rw [hkt] at this; omega
    obtain ⟨dx, dy, h1, h2, h3⟩ := h.sup _ _ ho (by rw [he]; exact hop)
    rw [hkt] at h3
    by_cases hz : dx = 0 ∧ dy = 0
    · rw [hz.1, hz.2, Int.add_zero, Int.add_zero, hkt] at h3; omega
    · obtain ⟨i, hi, e1, e2⟩ := dd_of h1 h2 hz
      have := hall i hi.1 hi.2
      unfold nb at this
      rw [e1, e2] at this
      by_cases hon : On g (t % g.w + dx) (t / g.w + dy)
      · rw [if_pos hon] at this
        rw [KP.on hon] at h3
        omega
      · rw [if_neg hon] at this; omega
theorem KS.open {g : Grd} {o : List Bool} {k : List Int} (hg : GOk g) (h : KS g o k) {t : Int} (ht : 0 ≤ t ∧ t < g.w * g.h) : gi o t = true ↔ 0 < gi k t := by
  obtain ⟨ho, he⟩ := On.of hg ht
  have hkt : KP g k (t % g.w) (t / g.w) = gi k t := by rw [KP.on ho, he]
  constructor
  · intro hop
    obtain ⟨dx, dy, h1, h2, h3⟩ := h.sup _ _ ho (by rw [he]; exact hop)
    rw [hkt] at h3
    have : 0 ≤ KP g k (t % g.w + dx) (t / g.w + dy) := by
      by_cases hn : On g (t % g.w + dx) (t / g.w + dy)
      · rw [KP.on hn]; have := hn.bd hg; exact (h.bd _ this.1.1 this.1.2).1
      · rw [KP.off hn]; exact Int.le_refl _
    omega
  · intro hlt
    apply Classical.byContradiction; intro hn
    have := h.zero _ _ ho (by rw [he]; exact hn)
    rw [hkt] at this; omega
theorem bool_of {a : Bool} {p : Prop} [Decidable p] (h : a = true ↔ p) : a = decide p := Bool.eq_iff_iff.2 (h.trans decide_eq_true_iff.symm)
/-- Which tiles are good. -/
def GdR (g : Grd) (k : List Int) (s : Int) (d : List Bool) : Prop := (d.length : Int) = g.w * g.h ∧ ∀ t : Int, 0 ≤ t → t < g.w * g.h → (gi d t = true ↔ s < gi k t)
theorem GdR.uniq {g : Grd} {k : List Int} {s : Int} {c d : List Bool} (h : GdR g k s c) (h' : GdR g k s d) : c = d :=
  ext_gi (by have := h.1; have := h'.1; omega) fun i i0 i1 => Bool.eq_iff_iff.2 ((h.2 i i0 (by have := h.1; omega)).trans (h'.2 i i0 (by have := h.1; omega)).symm)
theorem fit_b {g : Grd} {l : List Bld} {c : Int} (hg : GOk g) (hm : MOk g l) (hc : 0 ≤ c ∧ c ≤ 2) (s : Int) : Ok (field_Fit g l c s) fun d => ∃ o k, OpR g l c o ∧ KS g o k ∧ GdR g k s d := by
  have ha := hg.area
  have hgl := hg.2.2.1
  unfold field_Fit
  rw [if_pos (by omega)]
  refine Ok.bind (room_b hg hm hc) ?_
  rintro k ⟨o, ho, hk⟩
  have hkl := hk.len
  refine Ok.bind (R := GdR g k s) (Ok.loop (fun z : Int × List Bool => (0 ≤ z.1 ∧ z.1 ≤ k.length) ∧ (z.2.length : Int) = g.w * g.h ∧ ∀ t : Int, 0 ≤ t → t < z.1 → (gi z.2 t = true ↔ s < gi k t)) (fun z => (k.length - z.1).toNat)
    ⟨by simp, by simp; omega, fun t t0 t1 => (by have : t < 0 := t1; omega)⟩ (by unfold FUEL; simp; omega) ?_) (fun d hd => Ok.ret ⟨o, k, ho, hk, hd⟩)
  rintro ⟨v, d⟩ ⟨⟨v0, v1⟩, hl, h1⟩
  dsimp only at v0 v1 hl h1 ⊢
  refine Ok.ite (fun hlt => Ok.gd ⟨v0, hlt⟩ (Ok.gd (by omega) (Ok.gd (by unfold I64; omega) (Ok.ret ⟨⟨by show 0 ≤ v + 1 ∧ v + 1 ≤ _; omega, by show ((si d v _).length : Int) = _; rw [len_si]; exact hl, fun t t0 t1 => ?_⟩, by show ((k.length : Int) - (v + 1)).toNat < _; omega⟩)))) (fun hlt => Ok.ret ⟨hl, fun t t0 t1 => h1 t t0 (by omega)⟩)
  show gi (si d v (decide (s < gi k v))) t = true ↔ _
  by_cases e : t = v
  · subst e; rw [gi_si_self ⟨v0, by omega⟩, decide_eq_true_iff]
  · rw [gi_si_ne v0 t0 (Ne.symm e)]; exact h1 t t0 (by have : t < v + 1 := t1; omega)
/-- May it be asked? -/
def AOk (g : Grd) (l : List Bld) (c s : Int) : Prop := (GOk g ∧ MOk g l) ∧ (0 ≤ c ∧ c ≤ 2) ∧ (0 ≤ s ∧ s ≤ 3)
theorem mayF_b {g : Grd} {l : List Bld} {c s : Int} (hg : g.tiles.length ≤ 9223372036854775806) (hl : l.length ≤ 9223372036854775806) : Bo (field_May g l c s) (AOk g l c s) := by
  unfold field_May
  by_cases hs : 0 ≤ s ∧ s ≤ 3
  · rw [if_pos hs]
    unfold clear_May
    by_cases h1 : GOk g
    · rw [(may_g hg).t h1, bsome, if_pos rfl]
      by_cases h2 : MOk g l
      · rw [(may_b h1 hl).t h2, bsome, bsome, if_pos rfl]
        show Bo (some (decide ((0 ≤ c) ∧ (c ≤ 2)))) _
        exact Bo.dec ⟨fun h => ⟨⟨h1, h2⟩, h, hs⟩, fun h => h.2.1⟩
      · rw [(may_b h1 hl).f h2, bsome, bsome, if_neg (by simp)]
        exact Ok.ret ⟨fun e => (by cases e), fun e => absurd e.1.2 h2⟩
    · rw [(may_g hg).f h1, bsome, if_neg (by simp), bsome, if_neg (by simp)]
      exact Ok.ret ⟨fun e => (by cases e), fun e => absurd e.1.1 h1⟩
  · rw [if_neg hs]
    exact Ok.ret ⟨fun e => (by cases e), fun e => absurd e.2.2 hs⟩
theorem mayFR_b {g : Grd} {l : List Bld} {c s : Int} (hg : g.tiles.length ≤ 9223372036854775806) (hl : l.length ≤ 9223372036854775806) : Bo (throngref13_May g l c s) (AOk g l c s) := by
  unfold throngref13_May
  by_cases h1 : GOk g ∧ MOk g l
  · rw [(mayR_b hg hl).t h1, bsome, if_pos rfl]
    by_cases hc : 0 ≤ c ∧ c ≤ 2
    · have e : throngref5_Class c = some true := by unfold throngref5_Class; rw [decide_eq_true hc]
      rw [e, bsome, bsome, if_pos rfl]
      show Bo (some (decide ((0 ≤ s) ∧ (s ≤ 3)))) _
      exact Bo.dec ⟨fun h => ⟨h1, hc, h⟩, fun h => h.2.2⟩
    · have e : throngref5_Class c = some false := by unfold throngref5_Class; rw [decide_eq_false hc]
      rw [e, bsome, bsome, if_neg (by simp)]
      exact Ok.ret ⟨fun e => (by cases e), fun e => absurd e.2.1 hc⟩
  · rw [(mayR_b hg hl).f h1, bsome, if_neg (by simp), bsome, if_neg (by simp)]
    exact Ok.ret ⟨fun e => (by cases e), fun e => absurd e.1 h1⟩
end Go.Proofs.Ytiipgdmcgmbbkaa
