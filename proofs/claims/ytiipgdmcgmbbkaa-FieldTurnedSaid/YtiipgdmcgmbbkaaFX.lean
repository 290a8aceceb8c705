
/-
  The program's Make, as a pure function: what it answers. The conditions stand in each lemma.
-/
import Derived.Test.YtiipgdmcgmbbkaaFW
set_option linter.unusedVariables false
set_option linter.unusedSimpArgs false
namespace Go.Proofs.Ytiipgdmcgmbbkaa
open Go.Vg
theorem KP.nn {g : Grd} {o : List Bool} {k : List Int} (hg : GOk g) (h : KS g o k) (x y : Int) : 0 ≤ KP g k x y := by
  by_cases ho : On g x y
  · rw [KP.on ho]; have := ho.bd hg; exact (h.bd _ this.1.1 this.1.2).1
  · rw [KP.off ho]; exact Int.le_refl _
theorem KS.mono {g : Grd} {o o' : List Bool} {k k' : List Int} (hg : GOk g) (h : KS g o k) (h' : KS g o' k') (ho : ∀ t : Int, 0 ≤ t → t < g.w * g.h → gi o t = true → gi o' t = true) : ∀ x y, KP g k x y ≤ KP g k' x y := by
  have key : ∀ (n : Nat) x y, KP g k' x y ≤ n → KP g k x y ≤ KP g k' x y := by
    intro n
    induction n with
    | zero =>
      intro x y hn
      by_cases hon : On g x y
      · by_cases hop : gi o' (x + g.w * y) = true
        · obtain ⟨dx, dy, h1, h2, h3⟩ := h'.sup x y hon hop
          have := KP.nn hg h' (x + dx) (y + dy)
          omega
        · have hb := (hon.bd hg).1
          rw [h.zero x y hon (fun e => hop (ho _ hb.1 hb.2 e))]; exact KP.nn hg h' x y
      · rw [KP.off hon, KP.off hon]; exact Int.le_refl _
    | succ n ih =>
      intro x y hn
      by_cases hon : On g x y
      · by_cases hop : gi o' (x + g.w * y) = true
        · obtain ⟨dx, dy, h1, h2, h3⟩ := h'.sup x y hon hop
          have h4 := ih (x + dx) (y + dy) (by omega)
          have h5 := h.lip x y dx dy hon h1 h2
          omega
        · have hb := (hon.bd hg).1
          rw [h.zero x y hon (fun e => hop (ho _ hb.1 hb.2 e))]; exact KP.nn hg h' x y
      · rw [KP.off hon, KP.off hon]; exact Int.le_refl _
  exact fun x y => key (KP g k' x y).toNat x y (by have := KP.nn hg h' x y; omega)
theorem KS.gi_le {g : Grd} {o o' : List Bool} {k k' : List Int} (hg : GOk g) (h : KS g o k) (h' : KS g o' k') (ho : ∀ t : Int, 0 ≤ t → t < g.w * g.h → gi o t = true → gi o' t = true) : ∀ t : Int, 0 ≤ t → t < g.w * g.h → gi k t ≤ gi k' t := fun t t0 t1 => by
  obtain ⟨hon, he⟩ := On.of hg ⟨t0, t1⟩
  have := KS.mono hg h h' ho (t % g.w) (t / g.w)
  rw [KP.on hon, KP.on hon, he] at this
  exact this
/-- Which tiles are good, of a ground with buildings, for a class and a size. -/
def GdF (g : Grd) (l : List Bld) (c s : Int) (fr : List Bool) : Prop := ∃ o k, OpR g l c o ∧ KS g o k ∧ GdR g k s fr
theorem GdF.sub {g : Grd} {l : List Bld} {c s s' : Int} {tl : List UInt8} {fr fr' : List Bool} (hg : GOk g) (hg' : GOk ⟨g.w, g.h, tl⟩) (h : GdF g l c s fr) (h' : GdF ⟨g.w, g.h, tl⟩ l c s' fr') (hs : s' ≤ s)
    (ht : ∀ t : Int, 0 ≤ t → t < g.w * g.h → 0 < pr c ((gi g.tiles t).toNat : Int) → 0 < pr c ((gi tl t).toNat : Int)) : ∀ t : Int, 0 ≤ t → t < g.w * g.h → gi fr t = true → gi fr' t = true := by
  obtain ⟨o, k, ho, hk, hf⟩ := h
  obtain ⟨o', k', ho', hk', hf'⟩ := h'
  have hgl := hg.2.2.1
  have hgl' : (tl.length : Int) = g.w * g.h := hg'.2.2.1
  have hk2 : KS g o' k' := ⟨hk'.len, hk'.bd, hk'.zero, hk'.lip, hk'.sup⟩
  intro t t0 t1 hfr
  have h1 := (hf.2 t t0 t1).1 hfr
  refine (hf'.2 t t0 t1).2 ?_
  have := KS.gi_le hg hk hk2 (fun u u0 u1 hu => ?_) t t0 t1
  · omega
  · have h2 := (ho.2 u u0 (by omega)).1 hu
    exact (ho'.2 u u0 (by show u < (tl.length : Int); omega)).2 ⟨h2.1, ht u u0 u1 h2.2⟩
theorem GdF.len {g : Grd} {l : List Bld} {c s : Int} {fr : List Bool} (h : GdF g l c s fr) : (fr.length : Int) = g.w * g.h := by
  obtain ⟨o, k, ho, hk, hf⟩ := h
  exact hf.1
theorem GdF.uniq {g : Grd} {l : List Bld} {c s : Int} {fr fr' : List Bool} (hg : GOk g) (h : GdF g l c s fr) (h' : GdF g l c s fr') : fr = fr' := by
  have a := GdF.sub (tl := g.tiles) hg hg h h' (Int.le_refl _) (fun _ _ _ h => h)
  have b := GdF.sub (tl := g.tiles) hg hg h' h (Int.le_refl _) (fun _ _ _ h => h)
  refine ext_gi (by have := h.len; have := h'.len; omega) fun t t0 t1 => ?_
  have := h.len
  exact Bool.eq_iff_iff.2 ⟨a t t0 (by omega), b t t0 (by omega)⟩
theorem GdF.open {g : Grd} {l : List Bld} {c s : Int} {fr : List Bool} (hg : GOk g) (hs : 0 ≤ s) (h : GdF g l c s fr) : ∀ t : Int, 0 ≤ t → t < g.w * g.h → gi fr t = true → 0 < tc g c t := by
  obtain ⟨o, k, ho, hk, hf⟩ := h
  intro t t0 t1 hfr
  have h1 := (hf.2 t t0 t1).1 hfr
  have hgl := hg.2.2.1
  obtain ⟨hon, he⟩ := On.of hg ⟨t0, t1⟩
  have h2 : gi o t = true := Classical.byContradiction fun hn => by
    have h3 := hk.zero _ _ hon (by rw [he]; exact hn)
    rw [KP.on hon, he] at h3
    omega
  exact ((ho.2 t t0 (by omega)).1 h2).2
/-- How far it is. -/
structure MkR (g : Grd) (c goal : Int) (fr : List Bool) (d : List Int) : Prop where
  len : (d.length : Int) = g.w * g.h
  bd : ∀ t : Int, (0 ≤ t ∧ t < g.w * g.h) → -1 ≤ gi d t ∧ gi d t ≤ 84 * 16384
  free : ∀ t : Int, (0 ≤ t ∧ t < g.w * g.h) → 0 ≤ gi d t → gi fr t = true
  is : (gi fr goal = true ∧ LD (g.w * g.h) (Ed g c fr) goal d) ∨ (¬ gi fr goal = true ∧ ∀ t : Int, (0 ≤ t ∧ t < g.w * g.h) → gi d t = -1)
theorem MkR.uniq {g : Grd} {c goal : Int} {fr : List Bool} {d d' : List Int} (h : MkR g c goal fr d) (h' : MkR g c goal fr d') : d = d' := by
  rcases h.is with ⟨a, b⟩ | ⟨a, b⟩ <;> rcases h'.is with ⟨a', b'⟩ | ⟨a', b'⟩
  · exact b.uniq b'
  · exact absurd a a'
  · exact absurd a' a
  · refine ext_gi (by have := h.len; have := h'.len; omega) fun t t0 t1 => ?_
    have := h.len
    rw [b t ⟨t0, by omega⟩, b' t ⟨t0, by omega⟩]
theorem MkR.le {g : Grd} {c goal : Int} {fr fr' : List Bool} {d d' : List Int} {tl : List UInt8} (hg : GOk g) (hg' : GOk ⟨g.w, g.h, tl⟩) (hgo : 0 ≤ goal ∧ goal < g.w * g.h) (h : MkR g c goal fr d) (h' : MkR ⟨g.w, g.h, tl⟩ c goal fr' d')
    (hf : ∀ t : Int, 0 ≤ t → t < g.w * g.h → gi fr t = true → gi fr' t = true ∧ 0 < tc ⟨g.w, g.h, tl⟩ c t ∧ tc ⟨g.w, g.h, tl⟩ c t ≤ tc g c t) : ∀ t : Int, (0 ≤ t ∧ t < g.w * g.h) → 0 ≤ gi d t → 0 ≤ gi d' t ∧ gi d' t ≤ gi d t := by
  rcases h.is with ⟨a, b⟩ | ⟨a, b⟩
  · rcases h'.is with ⟨a', b'⟩ | ⟨a', b'⟩
    · refine LD.le b b' fun t u k ht hd hE => ?_
      obtain ⟨i, hi, rfl, rfl, hk⟩ := hE
      have key : 0 < stp ⟨g.w, g.h, tl⟩ c fr' t i ∧ stp ⟨g.w, g.h, tl⟩ c fr' t i ≤ stp g c fr t i := by
        have hfrt := hf t ht.1 ht.2 (h.free t ht hd)
        have hu := stp_fr hk
        have hub := nb_bd hg hu.1
        have hfru := hf _ hu.1 hub hu.2
        have ex : ∀ j : Int, Fr fr (nb g t j) → Fr fr' (nb ⟨g.w, g.h, tl⟩ t j) := fun j hj => ⟨hj.1, (hf _ hj.1 (nb_bd hg hj.1) hj.2).1⟩
        have e : tc ⟨g.w, g.h, tl⟩ c (nb ⟨g.w, g.h, tl⟩ t i) = tc ⟨g.w, g.h, tl⟩ c (nb g t i) := rfl
        unfold stp at hk ⊢
        rw [if_pos hu] at hk ⊢
        rw [if_pos (ex i hu), e]
        by_cases h4 : i < 4
        · simp only [if_pos h4] at hk ⊢
          omega
        · simp only [if_neg h4] at hk ⊢
          by_cases h5 : Fr fr (nb g t (Sd1 i)) ∧ Fr fr (nb g t (Sd2 i))
          · rw [if_pos h5] at hk ⊢
            rw [if_pos ⟨ex _ h5.1, ex _ h5.2⟩]
            omega
          · rw [if_neg h5] at hk; omega
      exact ⟨_, key.2, i, hi, rfl, rfl, key.1⟩
    · exact absurd (hf goal hgo.1 hgo.2 a).1 a'
  · intro t ht h0
    rw [b t ht] at h0; omega
theorem from_m {g : Grd} {c : Int} {fr : List Bool} {goal : Int} {f : Int → Option Bool} (hg : GOk g) (hc : 0 ≤ c ∧ c ≤ 2) (hf : (fr.length : Int) = g.w * g.h) (hgo : 0 ≤ goal ∧ goal < g.w * g.h) (he : ∀ u, f u = some true) :
    Ok (field_Net_From ⟨g, c, fr⟩ goal f) (MkR g c goal fr) := by
  have ha := hg.area
  refine Ok.mono (from_b hg hc hf hgo he) ?_
  rintro d (⟨h1, h2, h3, h4⟩ | ⟨h1, rfl⟩)
  · exact ⟨h2.len, fun t ht => ⟨h2.ge t ht.1 ht.2, h4 t ht⟩, h3, .inl ⟨h1, h2⟩⟩
  · have e : ∀ t : Int, (0 ≤ t ∧ t < g.w * g.h) → gi (List.replicate (g.w * g.h).toNat (-1 : Int)) t = -1 := fun t ht => gi_replicate ⟨ht.1, by omega⟩
    exact ⟨by simp; omega, fun t ht => by rw [e t ht]; omega, fun t ht h => by rw [e t ht] at h; omega, .inr ⟨h1, e⟩⟩
theorem ask_p {g : Grd} {l : List Bld} {c s goal : Int} (h : AOk g l c s) (hgt : g.tiles.length ≤ 9223372036854775806) (hl : l.length ≤ 9223372036854775806) : field_ask g l c s goal = some (if 0 ≤ goal ∧ goal < g.w * g.h then 0 else 3) := by
  have ha := h.1.1.area
  unfold field_ask
  rw [(mayF_b hgt hl).t h, bsome, if_neg (by simp)]
  unfold ground_Is
  rw [if_pos (fun _ => by unfold I64; omega), bsome]
  by_cases hh : 0 ≤ goal ∧ goal < g.w * g.h
  · rw [if_pos hh, decide_eq_true hh, if_neg (by simp)]
  · rw [if_neg hh, decide_eq_false hh, if_pos (by simp)]
theorem fit_f {g : Grd} {l : List Bld} {c s : Int} (h : AOk g l c s) : Ok (field_Fit g l c s) (GdF g l c s) := fit_b h.1.1 h.1.2 h.2.1 s
theorem make_b {g : Grd} {l : List Bld} {c s goal : Int} (h : AOk g l c s) (hgo : 0 ≤ goal ∧ goal < g.w * g.h) (hgt : g.tiles.length ≤ 9223372036854775806) (hl : l.length ≤ 9223372036854775806) : Ok (field_Make g l c s goal) fun r => r.2 = 0 ∧ ∃ fr, GdF g l c s fr ∧ MkR g c goal fr r.1 := by
  unfold field_Make
  rw [ask_p h hgt hl, if_pos hgo, bsome, if_neg (by omega)]
  unfold field_Open
  obtain ⟨fr, e, hfr⟩ := fit_f h
  rw [e, bsome, bsome]
  exact Ok.bind (from_m (g := g) h.1.1 h.2.1 hfr.len hgo (fun _ => rfl)) fun d hd => Ok.ret ⟨rfl, fr, hfr, hd⟩
theorem tile13_p {g : Grd} (hg : GOk g) (t : Int) : throngref5_Tile g t = some (decide (0 ≤ t ∧ t < g.w * g.h)) := by
  have ha := hg.area
  unfold throngref5_Tile
  rw [if_pos (fun _ => by unfold I64; omega)]
end Go.Proofs.Ytiipgdmcgmbbkaa
