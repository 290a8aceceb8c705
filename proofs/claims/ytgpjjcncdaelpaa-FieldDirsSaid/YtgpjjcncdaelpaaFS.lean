/-
  The page's Grid is the program's Room; good tiles. The conditions stand in each lemma.
-/
import Derived.Test.YtgpjjcncdaelpaaFR
set_option linter.unusedVariables false
set_option linter.unusedSimpArgs false
namespace Go.Proofs.Ytgpjjcncdaelpaa
open Go.Vg
/-- A tile keeps room for one round more just where all beside keep room for this one. -/
theorem KS.more {g : Grd} {o : List Bool} {k : List Int} (hg : GOk g) (h : KS g o k) {t r : Int} (ht : 0 ≤ t ∧ t < g.w * g.h) (hr : 0 ≤ r) (hk : r < gi k t) : r + 1 < gi k t ↔ ∀ i : Int, 0 ≤ i → i < 8 → ¬ nb g t i < 0 ∧ r < gi k (nb g t i) := by
  obtain ⟨ho, he⟩ := On.of hg ht
  have hkt : KP g k (t % g.w) (t / g.w) = gi k t := by rw [KP.on ho, he]
  constructor
  · intro hlt i i0 i1
    have hd := dd_bd ⟨i0, i1⟩
    have hl := h.lip _ _ (DX i) (DY i) ho hd.1 hd.2.1
    rw [hkt] at hl
    have hon : On g (t % g.w + DX i) (t / g.w + DY i) := Classical.byContradiction fun hn => by rw [KP.off hn] at hl; omega
    have hb := hon.bd hg
    rw [KP.on hon] at hl
    unfold nb
    rw [if_pos hon]
    exact ⟨by omega, by omega⟩
  · intro hall
    have hop : gi o t = true := Classical.byContradiction fun hn => by
      have := h.zero _ _ ho (by rw [he]; exact hn)
      rw [hkt] at this; omega
    obtain ⟨dx, dy, h1, h2, h3⟩ := h.sup _ _ ho (by rw [he]; exact hop)
    rw [hkt] at h3
    by_cases hz : dx = 0 ∧ dy = 0
    · rw [hz.1, hz.2, Int.add_zero, Int.add_zero, hkt] at h3; omega
    · obtain ⟨i, hi, e1, e2⟩ := dd_of h1 h2 hz
      have := hall i hi.1 hi.2
      unfold nb at this
      rw [e1, e2] at this
      by_cases hon : On g (t % g.w + dx) (t / g.w + dy)
      · rw [if_pos hon] at this
        rw [KP.on hon] at h3
        omega
      · rw [if_neg hon] at this; omega
theorem KS.open {g : Grd} {o : List Bool} {k : List Int} (hg : GOk g) (h : KS g o k) {t : Int} (ht : 0 ≤ t ∧ t < g.w * g.h) : gi o t = true ↔ 0 < gi k t := by
  obtain ⟨ho, he⟩ := On.of hg ht
  have hkt : KP g k (t % g.w) (t / g.w) = gi k t := by rw [KP.on ho, he]
  constructor
  · intro hop
    obtain ⟨dx, dy, h1, h2, h3⟩ := h.sup _ _ ho (by rw [he]; exact hop)
    rw [hkt] at h3
    have : 0 ≤ KP g k (t % g.w + dx) (t / g.w + dy) := by
      by_cases hn : On g (t % g.w + dx) (t / g.w + dy)
      · rw [KP.on hn]; have := hn.bd hg; exact (h.bd _ this.1.1 this.1.2).1
      · rw [KP.off hn]; exact Int.le_refl _
    omega
  · intro hlt
    apply Classical.byContradiction; intro hn
    have := h.zero _ _ ho (by rw [he]; exact hn)
    rw [hkt] at this; omega
theorem bool_of {a : Bool} {p : Prop} [Decidable p] (h : a = true ↔ p) : a = decide p := Bool.eq_iff_iff.2 (h.trans decide_eq_true_iff.symm)
theorem gridR_b {g : Grd} {l : List Bld} {c : Int} {o : List Bool} {k : List Int} (hg : GOk g) (hm : MOk g l) (hc : 0 ≤ c ∧ c ≤ 2) (ho : OpR g l c o) (hk : KS g o k) : throngref8_Grid g l c = some k := by
  have ha := hg.area
  have hgl := hg.2.2.1
  have hkl := hk.len
  have hol := ho.1
  unfold throngref8_Grid
  refine Ok.eq (Ok.bind (openR_b hg hm hc) fun x hx => ?_)
  have := hx.uniq ho
  subst this
  rw [if_pos (by omega)]
  have hN : ((x.length : Int).toNat : Int) = g.w * g.h := by omega
  have hNn : (x.length : Int).toNat = x.length := by omega
  refine Ok.bind (R := fun n => n = k) (loopG (fun (r : Int) (z : Bool × List Bool × List Int) => (0 ≤ r ∧ r ≤ 128) ∧ (z.2.1.length : Int) = g.w * g.h ∧ (z.2.2.length : Int) = g.w * g.h ∧ (∀ t : Int, 0 ≤ t → t < g.w * g.h → (gi z.2.1 t = true ↔ r < gi k t)) ∧ (∀ t : Int, 0 ≤ t → t < g.w * g.h → gi z.2.2 t = min (gi k t) r) ∧ (z.1 = false → ∀ t : Int, 0 ≤ t → t < g.w * g.h → gi k t ≤ r) ∧ (z.1 = true → r ≤ 127)) (fun r => (200 - r).toNat) 0
    ⟨by omega, by show (x.length : Int) = _; omega, by simp; omega, fun t t0 t1 => hk.open hg ⟨t0, t1⟩, fun t t0 t1 => ?_, fun h => (by cases h), fun _ => by omega⟩ (by unfold FUEL; omega) ?_) (fun n hn => Ok.ret hn)
  · show gi (List.replicate (x.length : Int).toNat (0 : Int)) t = _
    rw [gi_replicate ⟨t0, by omega⟩]
    have := hk.bd t t0 t1
    omega
  · rintro r ⟨left, inn, n⟩ ⟨⟨r0, r1⟩, hil, hnl, hin, hn, hleft, hr127⟩
    dsimp only at hil hnl hin hn hleft hr127 ⊢
    refine Ok.ite (fun hlf => ?_) (fun hlf => Ok.ret ?_)
    · have hr := hr127 hlf
      rw [if_pos (by omega)]
      have hIn : ((inn.length : Int).toNat : Int) = g.w * g.h := by omega
      refine Ok.bind (R := fun z : Bool × List Int × List Bool => (z.2.2.length : Int) = g.w * g.h ∧ (z.2.1.length : Int) = g.w * g.h ∧ (∀ t : Int, 0 ≤ t → t < g.w * g.h → (gi z.2.2 t = true ↔ r + 1 < gi k t)) ∧ (∀ t : Int, 0 ≤ t → t < g.w * g.h → gi z.2.1 t = min (gi k t) (r + 1)) ∧ (z.1 = true ↔ ∃ t : Int, (0 ≤ t ∧ t < g.w * g.h) ∧ r + 1 < gi k t))
        (Ok.loop (fun z : Bool × Int × List Int × List Bool => (0 ≤ z.2.1 ∧ z.2.1 ≤ g.w * g.h) ∧ (z.2.2.2.length : Int) = g.w * g.h ∧ (z.2.2.1.length : Int) = g.w * g.h ∧ (∀ t : Int, 0 ≤ t → t < z.2.1 → (gi z.2.2.2 t = true ↔ r + 1 < gi k t)) ∧ (∀ t : Int, z.2.1 ≤ t → t < g.w * g.h → gi z.2.2.2 t = false) ∧ (∀ t : Int, 0 ≤ t → t < z.2.1 → gi z.2.2.1 t = min (gi k t) (r + 1)) ∧ (∀ t : Int, z.2.1 ≤ t → t < g.w * g.h → gi z.2.2.1 t = min (gi k t) r) ∧ (z.1 = true ↔ ∃ t : Int, (0 ≤ t ∧ t < z.2.1) ∧ r + 1 < gi k t)) (fun z => (g.w * g.h - z.2.1).toNat)
        ⟨by simp; omega, by simp; omega, hnl, fun t t0 t1 => (by have : t < 0 := t1; omega), fun t t0 t1 => gi_replicate ⟨t0, by omega⟩, fun t t0 t1 => (by have : t < 0 := t1; omega), fun t t0 t1 => hn t t0 t1, ⟨fun h => (by cases h), fun ⟨t, ht, _⟩ => (by have : t < 0 := ht.2; omega)⟩⟩ (by unfold FUEL; simp; omega) ?_) ?_
      · rintro ⟨lf, v, m, nx⟩ ⟨⟨v0, v1⟩, hxl, hml, q1, q2, q3, q4, q5⟩
        dsimp only at v0 v1 hxl hml q1 q2 q3 q4 q5 ⊢
        refine Ok.ite (fun hlt => ?_) (fun hlt => Ok.ret ?_)
        · refine Ok.gd ⟨v0, hlt⟩ ?_
          have hvN : v < g.w * g.h := by omega
          have hbv := hk.bd v v0 hvN
          refine Ok.ite (fun hf => ?_) (fun hf => ?_)
          · have hkv : ¬ r < gi k v := fun h => by rw [(hin v v0 hvN).2 h] at hf; cases hf
            refine Ok.gd (by unfold I64; omega) (Ok.ret ⟨⟨by show 0 ≤ v + 1 ∧ v + 1 ≤ _; omega, hxl, hml, fun t t0 t1 => ?_, fun t t0 t1 => q2 t (by have : v + 1 ≤ t := t0; omega) t1, fun t t0 t1 => ?_, fun t t0 t1 => q4 t (by have : v + 1 ≤ t := t0; omega) t1, ?_⟩, by show (g.w * g.h - (v + 1)).toNat < _; omega⟩)
            · by_cases e : t = v
              · subst e; show gi nx t = true ↔ _; rw [q2 t (Int.le_refl _) hvN]
                exact ⟨fun h => (by cases h), fun h => (by omega)⟩
              · exact q1 t t0 (by have : t < v + 1 := t1; omega)
            · by_cases e : t = v
              · subst e; show gi m t = _; rw [q4 t (Int.le_refl _) hvN]; omega
              · exact q3 t t0 (by have : t < v + 1 := t1; omega)
            · refine q5.trans ⟨?_, ?_⟩
              · rintro ⟨t, h1, h2⟩
                exact ⟨t, by show 0 ≤ t ∧ t < v + 1; omega, h2⟩
              · rintro ⟨t, h1, h2⟩
                have h1 : 0 ≤ t ∧ t < v + 1 := h1
                have : t ≠ v := fun e => hkv (by rw [← e]; omega)
                exact ⟨t, by omega, h2⟩
          · have hkv : r < gi k v := (hin v v0 hvN).1 (by cases hh : gi inn v with
              | true => rfl
              | false => rw [hh] at hf; exact absurd rfl hf)
            have hmv : gi m v = r := by rw [q4 v (Int.le_refl _) hvN]; omega
            refine Ok.gd (by omega) (Ok.gd (by rw [hmv]; unfold I64; omega) (Ok.gd (by omega) (Ok.gd (by omega) ?_)))
            refine Ok.bind (nearR_b hg ⟨v0, hvN⟩) fun nr hnr => ?_
            have hmore := hk.more hg ⟨v0, hvN⟩ r0 hkv
            have hnrl := hnr.1
            refine Ok.bind (R := fun y : List Bool => (y.length : Int) = g.w * g.h ∧ (∀ t : Int, 0 ≤ t → t ≠ v → gi y t = gi nx t) ∧ (gi y v = true ↔ r + 1 < gi k v))
              (Ok.loop (fun z : Int × List Bool => (0 ≤ z.1 ∧ z.1 ≤ 8) ∧ (z.2.length : Int) = g.w * g.h ∧ (∀ t : Int, 0 ≤ t → t ≠ v → gi z.2 t = gi nx t) ∧ (gi z.2 v = true ↔ ∀ i : Int, 0 ≤ i → i < z.1 → ¬ nb g v i < 0 ∧ r < gi k (nb g v i))) (fun z => (8 - z.1).toNat)
              ⟨by simp, by show ((si nx v true).length : Int) = _; rw [len_si]; exact hxl, fun t t0 hne => gi_si_ne v0 t0 (Ne.symm hne), ?_⟩ (by unfold FUEL; simp) ?_) ?_
            · show gi (si nx v true) v = true ↔ _
              rw [gi_si_self ⟨v0, by omega⟩]
              exact ⟨fun _ i i0 i1 => (by have : i < 0 := i1; omega), fun _ => rfl⟩
            · rintro ⟨i, y⟩ ⟨⟨i0, i1⟩, hyl, hyr, hyv⟩
              dsimp only at i0 i1 hyl hyr hyv ⊢
              refine Ok.ite (fun hi8 => ?_) (fun hi8 => Ok.ret ⟨hyl, hyr, hyv.trans ⟨fun h => hmore.2 fun j j0 j1 => h j j0 (by omega), fun h j j0 j1 => hmore.1 h j j0 (by omega)⟩⟩)
              have e : gi nr i = nb g v i := hnr.2 i i0 hi8
              have hnb : ¬ nb g v i < 0 → 0 ≤ nb g v i ∧ nb g v i < g.w * g.h := fun h => by
                unfold nb at h ⊢
                by_cases hon : On g (v % g.w + DX i) (v / g.w + DY i)
                · rw [if_pos hon]; exact (hon.bd hg).1
                · rw [if_neg hon] at h; omega
              rw [e]
              refine Ok.gd ⟨i0, by omega⟩ (Ok.gd (fun _ => ⟨i0, by omega⟩) (Ok.gd (fun h => by have := hnb h; omega) (Ok.ite (fun hbad => Ok.gd (by omega) (Ok.gd (by unfold I64; omega) (Ok.ret ⟨⟨by show 0 ≤ i + 1 ∧ i + 1 ≤ 8; omega, by show ((si y v false).length : Int) = _; rw [len_si]; exact hyl, fun t t0 hne => ?_, ?_⟩, by show (8 - (i + 1)).toNat < _; omega⟩))) (fun hgood => Ok.gd (by unfold I64; omega) (Ok.ret ⟨⟨by show 0 ≤ i + 1 ∧ i + 1 ≤ 8; omega, hyl, hyr, ?_⟩, by show (8 - (i + 1)).toNat < _; omega⟩)))))
              · show gi (si y v false) t = _
                rw [gi_si_ne v0 t0 (Ne.symm hne)]; exact hyr t t0 hne
              · show gi (si y v false) v = true ↔ ∀ j : Int, 0 ≤ j → j < i + 1 → _
                rw [gi_si_self ⟨v0, by omega⟩]
                refine ⟨fun h => (by cases h), fun h => ?_⟩
                have h2 := h i i0 (by omega)
                rcases hbad with h3 | h3
                · exact absurd h3 h2.1
                · have hb := hnb h2.1
                  rw [(hin _ hb.1 hb.2).2 h2.2] at h3
                  cases h3
              · show gi y v = true ↔ ∀ j : Int, 0 ≤ j → j < i + 1 → _
                rw [hyv]
                refine ⟨fun h j j0 j1 => ?_, fun h j j0 j1 => h j j0 (by omega)⟩
                by_cases hj : j = i
                · subst hj
                  have h1 : ¬ nb g v j < 0 := fun hh => hgood (.inl hh)
                  have hb := hnb h1
                  refine ⟨h1, (hin _ hb.1 hb.2).1 ?_⟩
                  cases hh : gi inn (nb g v j) with
                  | true => rfl
                  | false => exact absurd (.inr (by rw [hh]; rfl)) hgood
                · exact h j j0 (by omega)
            · rintro y ⟨hyl, hyr, hyv⟩
              refine Ok.gd (fun _ => by omega) (Ok.gd (by unfold I64; omega) (Ok.ret ⟨⟨by show 0 ≤ v + 1 ∧ v + 1 ≤ _; omega, hyl, by show ((si m v _).length : Int) = _; rw [len_si]; exact hml, fun t t0 t1 => ?_, fun t t0 t1 => ?_, fun t t0 t1 => ?_, fun t t0 t1 => ?_, ?_⟩, by show (g.w * g.h - (v + 1)).toNat < _; omega⟩))
              · by_cases e : t = v
                · subst e; exact hyv
                · show gi y t = true ↔ _; rw [hyr t t0 e]; exact q1 t t0 (by have : t < v + 1 := t1; omega)
              · have : v + 1 ≤ t := t0
                show gi y t = false
                rw [hyr t (by omega) (by omega)]; exact q2 t (by omega) t1
              · show gi (si m v (gi m v + 1)) t = _
                by_cases e : t = v
                · subst e; rw [gi_si_self ⟨v0, by omega⟩, hmv]; omega
                · rw [gi_si_ne v0 t0 (Ne.symm e)]; exact q3 t t0 (by have : t < v + 1 := t1; omega)
              · have : v + 1 ≤ t := t0
                show gi (si m v (gi m v + 1)) t = _
                rw [gi_si_ne v0 (by omega) (by omega)]; exact q4 t (by omega) t1
              · show decide (lf = true ∨ gi y v = true) = true ↔ ∃ t : Int, (0 ≤ t ∧ t < v + 1) ∧ _
                rw [decide_eq_true_iff, q5, hyv]
                constructor
                · rintro (⟨t, h1, h2⟩ | h)
                  · exact ⟨t, by omega, h2⟩
                  · exact ⟨v, by omega, h⟩
                · rintro ⟨t, h1, h2⟩
                  by_cases e : t = v
                  · subst e; exact .inr h2
                  · exact .inl ⟨t, by omega, h2⟩
        · have hv : v = g.w * g.h := by omega
          subst hv
          exact ⟨hxl, hml, q1, q3, q5⟩
      · rintro ⟨lf, m, nx⟩ ⟨hxl, hml, q1, q3, q5⟩
        dsimp only at hxl hml q1 q3 q5 ⊢
        refine Ok.ret ⟨r + 1, ⟨by omega, hxl, hml, q1, q3, fun h t t0 t1 => ?_, fun h => ?_⟩, by omega⟩
        · apply Classical.byContradiction; intro hn
          have : lf = true := q5.2 ⟨t, ⟨t0, t1⟩, by omega⟩
          have h : lf = false := h
          rw [h] at this; cases this
        · obtain ⟨t, ht, h2⟩ := q5.1 h
          have := hk.bd t ht.1 ht.2
          omega
    · refine ext_gi (by omega) fun i i0 i1 => ?_
      have hf : left = false := by cases left <;> simp_all
      have := hleft hf i i0 (by omega)
      rw [hn i i0 (by omega)]
      omega
/-- Which tiles are good. -/
def GdR (g : Grd) (k : List Int) (s : Int) (d : List Bool) : Prop := (d.length : Int) = g.w * g.h ∧ ∀ t : Int, 0 ≤ t → t < g.w * g.h → (gi d t = true ↔ s < gi k t)
theorem GdR.uniq {g : Grd} {k : List Int} {s : Int} {c d : List Bool} (h : GdR g k s c) (h' : GdR g k s d) : c = d :=
  ext_gi (by have := h.1; have := h'.1; omega) fun i i0 i1 => Bool.eq_iff_iff.2 ((h.2 i i0 (by have := h.1; omega)).trans (h'.2 i i0 (by have := h.1; omega)).symm)
theorem fit_b {g : Grd} {l : List Bld} {c : Int} (hg : GOk g) (hm : MOk g l) (hc : 0 ≤ c ∧ c ≤ 2) (s : Int) : Ok (field_Fit g l c s) fun d => ∃ o k, OpR g l c o ∧ KS g o k ∧ GdR g k s d := by
  have ha := hg.area
  have hgl := hg.2.2.1
  unfold field_Fit
  rw [if_pos (by omega)]
  refine Ok.bind (room_b hg hm hc) ?_
  rintro k ⟨o, ho, hk⟩
  have hkl := hk.len
  refine Ok.bind (R := GdR g k s) (Ok.loop (fun z : Int × List Bool => (0 ≤ z.1 ∧ z.1 ≤ k.length) ∧ (z.2.length : Int) = g.w * g.h ∧ ∀ t : Int, 0 ≤ t → t < z.1 → (gi z.2 t = true ↔ s < gi k t)) (fun z => (k.length - z.1).toNat)
    ⟨by simp, by simp; omega, fun t t0 t1 => (by have : t < 0 := t1; omega)⟩ (by unfold FUEL; simp; omega) ?_) (fun d hd => Ok.ret ⟨o, k, ho, hk, hd⟩)
  rintro ⟨v, d⟩ ⟨⟨v0, v1⟩, hl, h1⟩
  dsimp only at v0 v1 hl h1 ⊢
  refine Ok.ite (fun hlt => Ok.gd ⟨v0, hlt⟩ (Ok.gd (by omega) (Ok.gd (by unfold I64; omega) (Ok.ret ⟨⟨by show 0 ≤ v + 1 ∧ v + 1 ≤ _; omega, by show ((si d v _).length : Int) = _; rw [len_si]; exact hl, fun t t0 t1 => ?_⟩, by show ((k.length : Int) - (v + 1)).toNat < _; omega⟩)))) (fun hlt => Ok.ret ⟨hl, fun t t0 t1 => h1 t t0 (by omega)⟩)
  show gi (si d v (decide (s < gi k v))) t = true ↔ _
  by_cases e : t = v
  · subst e; rw [gi_si_self ⟨v0, by omega⟩, decide_eq_true_iff]
  · rw [gi_si_ne v0 t0 (Ne.symm e)]; exact h1 t t0 (by have : t < v + 1 := t1; omega)
theorem goodR_b {g : Grd} {l : List Bld} {c : Int} {o : List Bool} {k : List Int} (hg : GOk g) (hm : MOk g l) (hc : 0 ≤ c ∧ c ≤ 2) (ho : OpR g l c o) (hk : KS g o k) (s : Int) : Ok (throngref13_Good g l c s) (GdR g k s) := by
  have ha := hg.area
  have hkl := hk.len
  unfold throngref13_Good
  rw [gridR_b hg hm hc ho hk, bsome, if_pos (by omega)]
  refine Ok.bind (R := GdR g k s) (Ok.loop (fun z : Int × List Bool => (0 ≤ z.1 ∧ z.1 ≤ k.length) ∧ (z.2.length : Int) = g.w * g.h ∧ ∀ t : Int, 0 ≤ t → t < z.1 → (gi z.2 t = true ↔ s < gi k t)) (fun z => (k.length - z.1).toNat)
    ⟨by simp, by simp; omega, fun t t0 t1 => (by have : t < 0 := t1; omega)⟩ (by unfold FUEL; simp; omega) ?_) (fun d hd => Ok.ret hd)
  rintro ⟨v, d⟩ ⟨⟨v0, v1⟩, hl, h1⟩
  dsimp only at v0 v1 hl h1 ⊢
  refine Ok.ite (fun hlt => Ok.gd ⟨v0, hlt⟩ (Ok.gd (by omega) (Ok.gd (by unfold I64; omega) (Ok.ret ⟨⟨by show 0 ≤ v + 1 ∧ v + 1 ≤ _; omega, by show ((si d v _).length : Int) = _; rw [len_si]; exact hl, fun t t0 t1 => ?_⟩, by show ((k.length : Int) - (v + 1)).toNat < _; omega⟩)))) (fun hlt => Ok.ret ⟨hl, fun t t0 t1 => h1 t t0 (by omega)⟩)
  show gi (si d v (decide (s < gi k v))) t = true ↔ _
  by_cases e : t = v
  · subst e; rw [gi_si_self ⟨v0, by omega⟩, decide_eq_true_iff]
  · rw [gi_si_ne v0 t0 (Ne.symm e)]; exact h1 t t0 (by have : t < v + 1 := t1; omega)
/-- May it be asked? -/
def AOk (g : Grd) (l : List Bld) (c s : Int) : Prop := (GOk g ∧ MOk g l) ∧ (0 ≤ c ∧ c ≤ 2) ∧ (0 ≤ s ∧ s ≤ 3)
theorem mayF_b {g : Grd} {l : List Bld} {c s : Int} (hg : g.tiles.length ≤ 9223372036854775806) (hl : l.length ≤ 9223372036854775806) : Bo (field_May g l c s) (AOk g l c s) := by
  unfold field_May
  by_cases hs : 0 ≤ s ∧ s ≤ 3
  · rw [if_pos hs]
    unfold clear_May
    by_cases h1 : GOk g
    · rw [(may_g hg).t h1, bsome, if_pos rfl]
      by_cases h2 : MOk g l
      · rw [(may_b h1 hl).t h2, bsome, bsome, if_pos rfl]
        show Bo (some (decide ((0 ≤ c) ∧ (c ≤ 2)))) _
        exact Bo.dec ⟨fun h => ⟨⟨h1, h2⟩, h, hs⟩, fun h => h.2.1⟩
      · rw [(may_b h1 hl).f h2, bsome, bsome, if_neg (by simp)]
        exact Ok.ret ⟨fun e => (by cases e), fun e => absurd e.1.2 h2⟩
    · rw [(may_g hg).f h1, bsome, if_neg (by simp), bsome, if_neg (by simp)]
      exact Ok.ret ⟨fun e => (by cases e), fun e => absurd e.1.1 h1⟩
  · rw [if_neg hs]
    exact Ok.ret ⟨fun e => (by cases e), fun e => absurd e.2.2 hs⟩
theorem mayFR_b {g : Grd} {l : List Bld} {c s : Int} (hg : g.tiles.length ≤ 9223372036854775806) (hl : l.length ≤ 9223372036854775806) : Bo (throngref13_May g l c s) (AOk g l c s) := by
  unfold throngref13_May
  by_cases h1 : GOk g ∧ MOk g l
  · rw [(mayR_b hg hl).t h1, bsome, if_pos rfl]
    by_cases hc : 0 ≤ c ∧ c ≤ 2
    · have e : throngref5_Class c = some true := by unfold throngref5_Class; rw [decide_eq_true hc]
      rw [e, bsome, bsome, if_pos rfl]
      show Bo (some (decide ((0 ≤ s) ∧ (s ≤ 3)))) _
      exact Bo.dec ⟨fun h => ⟨h1, hc, h⟩, fun h => h.2.2⟩
    · have e : throngref5_Class c = some false := by unfold throngref5_Class; rw [decide_eq_false hc]
      rw [e, bsome, bsome, if_neg (by simp)]
      exact Ok.ret ⟨fun e => (by cases e), fun e => absurd e.2.1 hc⟩
  · rw [(mayR_b hg hl).f h1, bsome, if_neg (by simp), bsome, if_neg (by simp)]
    exact Ok.ret ⟨fun e => (by cases e), fun e => absurd e.1 h1⟩
theorem goodP_b {g : Grd} {l : List Bld} {c s : Int} (hg : g.tiles.length ≤ 9223372036854775806) (hl : l.length ≤ 9223372036854775806) : Ok (field_Good g l c s) fun r => (AOk g l c s ∧ r.2 = 0 ∧ ∃ o k, OpR g l c o ∧ KS g o k ∧ GdR g k s r.1) ∨ (¬ AOk g l c s ∧ r = ([], 1)) := by
  unfold field_Good
  by_cases h : AOk g l c s
  · rw [(mayF_b hg hl).t h, bsome, if_neg (by simp)]
    exact Ok.bind (fit_b h.1.1 h.1.2 h.2.1 s) fun d hd => Ok.ret (.inl ⟨h, rfl, hd⟩)
  · rw [(mayF_b hg hl).f h, bsome, if_pos (by rfl)]
    exact Ok.ret (.inr ⟨h, rfl⟩)
end Go.Proofs.Ytgpjjcncdaelpaa
