/-
  The program's Toward and Dirs, as pure functions: what they answer. The conditions stand in each lemma.
-/
import Derived.Test.YtgpjjcncdaelpaaFY
set_option linter.unusedVariables false
set_option linter.unusedSimpArgs false
namespace Go.Proofs.Ytgpjjcncdaelpaa
open Go.Vg
/-- A way that leads on. -/
def On1 (g : Grd) (c : Int) (fr : List Bool) (d : List Int) (t i : Int) : Prop := 0 < stp g c fr t i ∧ 0 ≤ gi d (nb g t i) ∧ stp g c fr t i + gi d (nb g t i) = gi d t
/-- The first way that leads on; -1: none. -/
def Dr (g : Grd) (c : Int) (fr : List Bool) (d : List Int) (t i : Int) : Prop := (gi d t ≤ 0 ∧ i = -1) ∨ (0 < gi d t ∧ (0 ≤ i ∧ i < 8) ∧ On1 g c fr d t i ∧ ∀ j, 0 ≤ j → j < i → ¬ On1 g c fr d t j)
structure DirR (g : Grd) (c : Int) (fr : List Bool) (d w : List Int) : Prop where
  len : (w.length : Int) = g.w * g.h
  way : ∀ t : Int, 0 ≤ t → t < g.w * g.h → Dr g c fr d t (gi w t)
theorem DirR.uniq {g : Grd} {c : Int} {fr : List Bool} {d w w' : List Int} (h : DirR g c fr d w) (h' : DirR g c fr d w') : w = w' := by
  refine ext_gi (by have := h.len; have := h'.len; omega) fun t t0 t1 => ?_
  have hl := h.len
  rcases h.way t t0 (by omega) with ⟨a, b⟩ | ⟨a, b, p, q⟩ <;> rcases h'.way t t0 (by omega) with ⟨a', b'⟩ | ⟨a', b', p', q'⟩
  · omega
  · omega
  · omega
  · rcases Int.lt_trichotomy (gi w t) (gi w' t) with e | e | e
    · exact absurd p (q' _ b.1 e)
    · exact e
    · exact absurd p' (q _ b'.1 e)
theorem MkR.on {g : Grd} {c goal : Int} {fr : List Bool} {d : List Int} (hg : GOk g) (h : MkR g c goal fr d) {t : Int} (ht : 0 ≤ t ∧ t < g.w * g.h) (h0 : 0 < gi d t) : ∃ i, (0 ≤ i ∧ i < 8) ∧ On1 g c fr d t i := by
  rcases h.is with ⟨hgf, hL⟩ | ⟨_, hn⟩
  · have hne : t ≠ goal := fun e => by subst e; have := hL.zero; omega
    obtain ⟨u, k, hu, hE, hk, hd, hs⟩ := hL.sup t ht hne (by omega)
    obtain ⟨i, hi, hn, hst, hk2⟩ := Ed.symm hg hu (h.free u hu hd) hE
    refine ⟨i, hi, by omega, by rw [hn]; exact hd, by rw [hn, hst]; omega⟩
  · rw [hn t ht] at h0; omega
theorem toward_b {g : Grd} {c : Int} {fr : List Bool} {goal : Int} (hg : GOk g) (hc : 0 ≤ c ∧ c ≤ 2) (hf : (fr.length : Int) = g.w * g.h) (hgo : 0 ≤ goal ∧ goal < g.w * g.h) :
    Ok (field_Net_Toward ⟨g, c, fr⟩ goal) fun w => ∃ d, MkR g c goal fr d ∧ DirR g c fr d w := by
  have ha := hg.area
  unfold field_Net_Toward
  refine Ok.bind (from_m hg hc hf hgo (fun _ => rfl)) fun d hd => ?_
  have hdl := hd.len
  have e1 : slices_Repeat_Int [(-1)] (d.length : Int) = some (List.replicate d.length (-1)) := by
    unfold slices_Repeat_Int
    rw [if_pos ⟨rfl, by omega, by omega⟩]; rfl
  rw [e1, bsome]
  refine Ok.bind (R := DirR g c fr d) (Ok.loop (fun z : Int × List Int => (0 ≤ z.1 ∧ z.1 ≤ g.w * g.h) ∧ (z.2.length : Int) = g.w * g.h ∧ (∀ t : Int, 0 ≤ t → t < z.1 → Dr g c fr d t (gi z.2 t)) ∧ ∀ t : Int, z.1 ≤ t → t < g.w * g.h → gi z.2 t = -1) (fun z => (g.w * g.h - z.1).toNat)
    ⟨by simp; omega, by simp; omega, fun t t0 t1 => (by have : t < 0 := t1; omega), fun t t0 t1 => gi_replicate ⟨t0, by omega⟩⟩ (by unfold FUEL; simp; omega) ?_) (fun w hw => Ok.ret ⟨d, hd, hw⟩)
  rintro ⟨v, l⟩ ⟨⟨v0, v1⟩, hl, h1, h2⟩
  dsimp only at v0 v1 hl h1 h2 ⊢
  refine Ok.ite (fun hlt => ?_) (fun hlt => Ok.ret ⟨hl, fun t t0 t1 => h1 t t0 (by omega)⟩)
  have hv : 0 ≤ v ∧ v < g.w * g.h := ⟨v0, by omega⟩
  refine Ok.gd ⟨v0, hlt⟩ (Ok.ite (fun hz => ?_) (fun hz => ?_))
  · refine Ok.gd (by unfold I64; omega) (Ok.ret ⟨⟨by show 0 ≤ v + 1 ∧ v + 1 ≤ _; omega, hl, fun t t0 t1 => ?_, fun t t0 t1 => h2 t (by have : v + 1 ≤ t := t0; omega) t1⟩, by show (g.w * g.h - (v + 1)).toNat < _; omega⟩)
    by_cases e : t = v
    · subst e; exact .inl ⟨hz, h2 t (Int.le_refl _) hv.2⟩
    · exact h1 t t0 (by have : t < v + 1 := t1; omega)
  · refine Ok.bind (beside_b hg hv) fun near hnear => ?_
    have hnl := hnear.1
    refine Ok.gd ⟨by simp, hnl⟩ (Ok.gd hnl ?_)
    obtain ⟨i0, hi0, hon⟩ := hd.on hg hv (by omega)
    refine Ok.bind (R := fun y : List Int => ∃ i, (0 ≤ i ∧ i < 8) ∧ On1 g c fr d v i ∧ (∀ j, 0 ≤ j → j < i → ¬ On1 g c fr d v j) ∧ y = si l v i)
      (Ok.loop (fun i : Int => (0 ≤ i ∧ i ≤ 8) ∧ ∀ j, 0 ≤ j → j < i → ¬ On1 g c fr d v j) (fun i => (8 - i).toNat) ⟨by omega, fun j j0 j1 => by omega⟩ (by unfold FUEL; omega) ?_) ?_
    · rintro i ⟨⟨i0', i1⟩, hno⟩
      refine Ok.ite (fun hi => ?_) (fun hi => ?_)
      · refine Ok.gd ⟨i0', hi, hnl⟩ (Ok.gd hnl ?_)
        rw [step_p (f := fun y0 => field_everywhere y0) hg hc hf hv hnear ⟨i0', hi⟩ (fun _ => rfl), bsome, hnear.2 i i0' hi]
        have hsb := stp_bd (fr := fr) (i := i) (c := c) hg hc hv
        have hu : 0 < stp g c fr v i → 0 ≤ nb g v i ∧ nb g v i < d.length := fun h => by
          have h1 := stp_fr h
          have := nb_bd hg h1.1
          exact ⟨h1.1, by omega⟩
        have hb : 0 < stp g c fr v i → gi d (nb g v i) ≤ 84 * 16384 := fun h => (hd.bd _ (by have := hu h; omega)).2
        refine Ok.gd hu (Ok.gd (fun h => hu h.1) (Ok.gd (fun h => by have := hb h.1; unfold I64; omega) (Ok.ite (fun h => ?_) (fun h => ?_))))
        · exact Ok.gd (by simp; omega) (Ok.ret ⟨i, ⟨i0', hi⟩, ⟨h.1.1, h.1.2, h.2⟩, hno, rfl⟩)
        · refine Ok.gd (by unfold I64; omega) (Ok.ret ⟨⟨by omega, fun j j0 j1 => ?_⟩, by omega⟩)
          by_cases e : j = i
          · subst e; exact fun hh => h ⟨⟨hh.1, hh.2.1⟩, hh.2.2⟩
          · exact hno j j0 (by omega)
      · exact absurd hon (hno i0 hi0.1 (by omega))
    · rintro y ⟨i, hi, hoi, hno, rfl⟩
      refine Ok.gd (by unfold I64; omega) (Ok.ret ⟨⟨by show 0 ≤ v + 1 ∧ v + 1 ≤ _; omega, by show ((si l v i).length : Int) = _; rw [len_si]; exact hl, fun t t0 t1 => ?_, fun t t0 t1 => ?_⟩, by show (g.w * g.h - (v + 1)).toNat < _; omega⟩)
      · show Dr g c fr d t (gi (si l v i) t)
        by_cases e : t = v
        · subst e; rw [gi_si_self ⟨t0, by omega⟩]; exact .inr ⟨by omega, hi, hoi, hno⟩
        · rw [gi_si_ne v0 t0 (Ne.symm e)]; exact h1 t t0 (by have : t < v + 1 := t1; omega)
      · have : v + 1 ≤ t := t0
        show gi (si l v i) t = -1
        rw [gi_si_ne v0 (by omega) (by omega)]; exact h2 t (by omega) t1
theorem dirs_b {g : Grd} {l : List Bld} {c s goal : Int} (h : AOk g l c s) (hgo : 0 ≤ goal ∧ goal < g.w * g.h) (hgt : g.tiles.length ≤ 9223372036854775806) (hl : l.length ≤ 9223372036854775806) : Ok (field_Dirs g l c s goal) fun r => r.2 = 0 ∧ ∃ fr d, GdF g l c s fr ∧ MkR g c goal fr d ∧ DirR g c fr d r.1 := by
  unfold field_Dirs
  rw [ask_p h hgt hl, if_pos hgo, bsome, if_neg (by omega)]
  unfold field_Open
  obtain ⟨fr, e, hfr⟩ := fit_f h
  rw [e, bsome, bsome]
  exact Ok.bind (toward_b (g := g) h.1.1 h.2.1 hfr.len hgo) fun w ⟨d, hd, hw⟩ => Ok.ret ⟨rfl, fr, d, hfr, hd, hw⟩
end Go.Proofs.Ytgpjjcncdaelpaa
