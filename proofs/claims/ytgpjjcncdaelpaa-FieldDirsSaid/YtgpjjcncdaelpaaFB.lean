/-
  The page's search, joined: what it answers. The conditions stand in each lemma.
-/
import Derived.Test.YtgpjjcncdaelpaaFA
set_option linter.unusedVariables false
set_option linter.unusedSimpArgs false
namespace Go.Proofs.Ytgpjjcncdaelpaa
open Go.Vg
theorem SP.upd {N goal : Int} {fr : List Bool} {E : Int → Int → Int → Prop} {nbf st : Int → Int} {t i u s : Int} {M : Nat} {d todo todo' : List Int} {w w' : List Bool} (h : SP N goal fr E nbf st t i M d todo w) (hN : N ≤ 16384) (hgo : 0 ≤ goal ∧ goal < N)
    (ht : 0 ≤ t ∧ t < N) (h0 : 0 ≤ gi d t) (hu : 0 ≤ u ∧ u < N) (huf : gi fr u = true) (hnb : nbf i = u) (hst : st i = s) (hs : 0 < s ∧ s ≤ 84) (hE : E t u s) (hc : ¬ (0 ≤ gi d u ∧ gi d u ≤ gi d t + s)) (hbE : ∀ x u k, (0 ≤ x ∧ x < N) → E x u k → 0 ≤ u ∧ u < N) (hnbb : ∀ j, 0 < st j → 0 ≤ nbf j ∧ nbf j < N)
    (h1 : ∀ x ∈ todo, x ∈ todo') (h2 : u ∈ todo') (h3 : ∀ x ∈ todo', x ∈ todo ∨ x = u) (h4 : todo'.length ≤ todo.length + 1) (h5 : (w'.length : Int) = N) (h6 : ∀ y, (0 ≤ y ∧ y < N) → gi w' y = true → y = u ∨ gi w y = true) :
    SP N goal fr E nbf st t (i + 1) M (si d u (gi d t + s)) todo' w' ∧ gi (si d u (gi d t + s)) t = gi d t := by
  have hdl := h.dl
  obtain ⟨x, hx⟩ : ∃ x, x = gi d t + s := ⟨_, rfl⟩
  rw [← hx] at hc ⊢
  have hg : ∀ y, (0 ≤ y ∧ y < N) → gi (si d u x) y = if y = u then x else gi d y := fun y hy => by
    by_cases e : y = u
    · subst e; rw [if_pos rfl]; exact gi_si_self ⟨hy.1, by omega⟩
    · rw [if_neg e]; exact gi_si_ne hu.1 hy.1 (Ne.symm e)
  have hne : t ≠ u := fun e => by subst e; exact hc ⟨h0, by omega⟩
  have hgt : gi (si d u x) t = gi d t := by rw [hg t ht, if_neg hne]
  have hless : 0 ≤ gi d u → x < gi d u := fun e => by omega
  have hle : ∀ y, (0 ≤ y ∧ y < N) → 0 ≤ gi d y → 0 ≤ gi (si d u x) y ∧ gi (si d u x) y ≤ gi d y := fun y hy e => by
    rw [hg y hy]
    by_cases e2 : y = u
    · rw [if_pos e2]; subst e2; have := hless e; omega
    · rw [if_neg e2]; omega
  have hW := h.W
  have has := asg_si (d := d) (u := u) (x := x) ⟨hu.1, by omega⟩ (by omega)
  have hal := asg_le d
  have hsp := sumP_si (d := d) (u := u) (x := x) ⟨hu.1, by omega⟩
  refine ⟨⟨by rw [len_si]; exact hdl, h5, fun y hy => ?_, fun y hy hw => ?_, fun y hy hy0 hny hyt v k hv => ?_, fun j hj hsj => ?_, fun y hy hyg hy0 => ?_, ?_, fun y hy => ?_, fun y hy hy0 => ?_, fun y hy => ?_, ?_⟩, hgt⟩
  · rcases h3 y hy with h7 | rfl
    · have := h.td y h7; exact ⟨this.1, (hle y this.1 this.2).1⟩
    · refine ⟨hu, ?_⟩; rw [hg y hu, if_pos rfl]; omega
  · rcases h6 y hy hw with rfl | h7
    · exact h2
    · exact h1 y (h.wt y hy h7)
  · have hyu : y ≠ u := fun e => hny (e ▸ h2)
    rw [hg y hy, if_neg hyu] at hy0 ⊢
    have h7 := h.J y hy hy0 (fun e => hny (h1 y e)) hyt v k hv
    have h8 := hle v (hbE y v k hy hv) h7.1
    omega
  · rw [hgt]
    by_cases e : j = i
    · subst e
      rw [hnb, hst, hg u hu, if_pos rfl]; omega
    · have h7 := h.rel j ⟨hj.1, by have := hj.2; omega⟩ hsj
      have h8 := hle _ (hnbb j hsj) h7.1
      omega
  · rw [hg y hy] at hy0
    by_cases e : y = u
    · subst e
      refine ⟨t, s, ht, hE, hs.1, by rw [hgt]; exact h0, ?_⟩
      rw [hgt, hg y hy, if_pos rfl]; omega
    · rw [if_neg e] at hy0
      obtain ⟨v, k, hv, h7, h8, h9, h10⟩ := h.sup y hy hyg hy0
      have h11 := hle v hv h9
      refine ⟨v, k, hv, h7, h8, h11.1, ?_⟩
      rw [hg y hy, if_neg e]; omega
  · have hgu : goal ≠ u := fun e => by
      have := h.Z
      rw [e] at this
      exact hc ⟨by omega, by omega⟩
    rw [hg goal hgo, if_neg hgu]; exact h.Z
  · rw [hg y hy]; split
    · omega
    · exact h.R y hy
  · rw [hg y hy] at hy0
    by_cases e : y = u
    · rw [e]; exact huf
    · rw [if_neg e] at hy0; exact h.P y hy hy0
  · have h7 := hW t ht
    have h8 := hW y hy
    have h9 := hW u hu
    rw [hg y hy, has]
    by_cases e : y = u
    · rw [if_pos e]
      by_cases e2 : 0 ≤ gi d u
      · rw [if_pos e2]; have := hless e2; omega
      · rw [if_neg e2]; omega
    · rw [if_neg e]
      split <;> omega
  · have h7 := hW t ht
    have h8 := h.V
    have h9 : pot x + 1 ≤ pot (gi d u) := by
      unfold pot BIG
      rw [if_neg (by omega)]
      by_cases e2 : 0 ≤ gi d u
      · rw [if_neg (by omega)]; have := hless e2; omega
      · rw [if_pos (by omega)]; omega
    omega
theorem farR_b {g : Grd} {c : Int} {fr : List Bool} {goal : Int} (hg : GOk g) (hc : 0 ≤ c ∧ c ≤ 2) (hf : (fr.length : Int) = g.w * g.h) (hgo : 0 ≤ goal ∧ goal < g.w * g.h) : Ok (throngref13_far g fr c goal (-1)) (MkR g c goal fr) := by
  have ha := hg.area
  obtain ⟨N, hN⟩ : ∃ N, N = g.w * g.h := ⟨_, rfl⟩
  unfold throngref13_far
  rw [← hN] at ha hf hgo ⊢
  refine Ok.gd (by unfold I64; omega) (Ok.gd (by omega) ?_)
  refine Ok.bind (R := fun d => (d.length : Int) = N ∧ ∀ t : Int, (0 ≤ t ∧ t < N) → gi d t = -1) (Ok.loop (fun z : Int × List Int => (0 ≤ z.1 ∧ z.1 ≤ N) ∧ (z.2.length : Int) = N ∧ ∀ t : Int, 0 ≤ t → t < z.1 → gi z.2 t = -1) (fun z => (N - z.1).toNat)
    ⟨by simp; omega, by simp; omega, fun t t0 t1 => (by have : t < 0 := t1; omega)⟩ (by unfold FUEL; simp; omega) ?_) ?_
  · rintro ⟨v, l⟩ ⟨⟨v0, v1⟩, hl, hq⟩
    dsimp only at v0 v1 hl hq ⊢
    refine Ok.ite (fun hlt => Ok.gd ⟨v0, hlt⟩ (Ok.gd (by unfold I64; omega) (Ok.ret ⟨⟨by show 0 ≤ v + 1 ∧ v + 1 ≤ N; omega, by show ((si l v (-1)).length : Int) = _; rw [len_si]; exact hl, fun t t0 t1 => ?_⟩, by show (N - (v + 1)).toNat < _; omega⟩))) (fun hlt => Ok.ret ⟨hl, fun t ht => hq t ht.1 (by omega)⟩)
    show gi (si l v (-1)) t = -1
    by_cases e : t = v
    · subst e; exact gi_si_self ⟨t0, by omega⟩
    · rw [gi_si_ne v0 t0 (Ne.symm e)]; exact hq t t0 (by have : t < v + 1 := t1; omega)
  · rintro d0 ⟨hd0l, hd0⟩
    refine Ok.gd (by omega) ?_
    by_cases hgf : gi fr goal = true
    · refine Ok.bindE (x := false) (by rw [if_neg (by rw [hgf]; simp), if_neg (by omega)]; rfl) ?_
      rw [if_neg (by simp)]
      refine Ok.gd (by omega) (Ok.gd (by omega) ?_)
      have hbE : ∀ x u k, (0 ≤ x ∧ x < N) → Ed g c fr x u k → 0 ≤ u ∧ u < N := fun x u k hx h => by
        have := (h.bd hg hc (by rw [← hN]; exact hx)).1
        rw [← hN] at this; exact this
      have hg0 : ∀ y, (0 ≤ y ∧ y < N) → gi (si d0 goal 0) y = if y = goal then 0 else -1 := fun y hy => by
        by_cases e : y = goal
        · subst e; rw [if_pos rfl]; exact gi_si_self ⟨hy.1, by omega⟩
        · rw [if_neg e, gi_si_ne hgo.1 hy.1 (Ne.symm e)]; exact hd0 y hy
      have hS0l : sumP (si d0 goal 0) ≤ N.toNat * BIG := by
        have := sumP_le (d := si d0 goal 0) (fun v hv => by
          obtain ⟨j, j0, j1, rfl⟩ := gi_mem2.1 hv
          rw [len_si] at j1
          rw [hg0 j ⟨j0, by omega⟩]; split <;> omega)
        rw [len_si] at this
        rw [show N.toNat = d0.length by omega]; exact this
      have hS0 : sumP (si d0 goal 0) ≤ 22548594688 := Nat.le_trans hS0l (Nat.le_trans (Nat.mul_le_mul_right _ (show N.toNat ≤ 16384 by omega)) (by unfold BIG; omega))
      have has0 : asg (si d0 goal 0) = asg d0 + (if 0 ≤ gi d0 goal then 0 else 1) := asg_si ⟨hgo.1, by omega⟩ (by omega)
      have hgd0 := hd0 goal hgo
      rw [hgd0, if_neg (by omega)] at has0
      refine Ok.bind (R := fun z : List Int × List Int => MkR g c goal fr z.2) (Ok.loop (fun z : List Int × List Int × List Bool => SP N goal fr (Ed g c fr) (fun _ => 0) (fun _ => 0) (-1) 0 45097189377 z.1 z.2.1 z.2.2) (fun z => 2 * sumP z.1 + z.2.1.length) ?_ ?_ ?_) (fun z hz => Ok.ret hz)
      · refine ⟨by show ((si d0 goal 0).length : Int) = N; rw [len_si]; exact hd0l, by simp; omega, fun x hx => ?_, fun x hx hw => ?_, fun x hx h0 hn _ => ?_, fun j hj => by have h1 := hj.1; have h2 : j < 0 := hj.2; omega, fun x hx hxg h0 => ?_, ?_, fun x hx => ?_, fun x hx h0 => ?_, fun x hx => ?_, ?_⟩
        · have hx : x = goal := by simpa using hx
          subst hx
          refine ⟨hgo, ?_⟩
          show 0 ≤ gi (si d0 x 0) x
          rw [hg0 x hgo, if_pos rfl]; omega
        · have hw : gi (List.replicate ((N.toNat : Int)).toNat false) x = true := hw
          rw [gi_replicate ⟨hx.1, by omega⟩] at hw; cases hw
        · have h0 : 0 ≤ gi (si d0 goal 0) x := h0
          rw [hg0 x hx] at h0
          by_cases e : x = goal
          · exact absurd (by rw [e]; exact List.mem_singleton.2 rfl) hn
          · rw [if_neg e] at h0; omega
        · have h0 : 0 ≤ gi (si d0 goal 0) x := h0
          rw [hg0 x hx, if_neg hxg] at h0; omega
        · show gi (si d0 goal 0) goal = 0
          rw [hg0 goal hgo, if_pos rfl]
        · show -1 ≤ gi (si d0 goal 0) x
          rw [hg0 x hx]; split <;> omega
        · have h0 : 0 ≤ gi (si d0 goal 0) x := h0
          rw [hg0 x hx] at h0
          by_cases e : x = goal
          · rw [e]; exact hgf
          · rw [if_neg e] at h0; omega
        · show gi (si d0 goal 0) x ≤ 84 * ((asg (si d0 goal 0) : Int) - 1)
          rw [hg0 x hx, has0]; split <;> omega
        · show 2 * sumP (si d0 goal 0) + 1 ≤ _; omega
      · unfold FUEL; show 2 * sumP (si d0 goal 0) + 1 < _; omega
      · rintro ⟨d, todo, w⟩ hI
        dsimp only at hI ⊢
        have hdl := hI.dl
        have hwl := hI.wl
        cases todo with
        | nil =>
          rw [if_neg (by simp)]
          have hfin := hI.fin
          refine Ok.ret ⟨by rw [← hN]; exact hdl, fun t ht => ?_, fun t ht => by rw [← hN] at ht; exact hI.P t ht, .inl ⟨hgf, by rw [← hN]; exact hfin⟩⟩
          rw [← hN] at ht
          have h1 := hI.W t ht
          have h2 := asg_le d
          have h3 := hI.R t ht
          exact ⟨h3, by show gi d t ≤ _; omega⟩
        | cons t rest =>
          have htd := hI.td t List.mem_cons_self
          have ht := htd.1
          have ht' : 0 ≤ t ∧ t < g.w * g.h := by rw [← hN]; exact ht
          have e0 : gi (t :: rest) (0 : Int) = t := rfl
          have e1 : (t :: rest).drop (1 : Int).toNat = rest := rfl
          rw [e0, e1]
          have hft := hI.P t ht htd.2
          refine Ok.ite (fun _ => ?_) (fun h => absurd (by simp) h)
          refine Ok.gd (by simp only [List.length_cons]; omega) (Ok.gd (by simp only [List.length_cons]; omega) (Ok.gd (by omega) ?_))
          refine Ok.bind (nearR_b hg ht') fun near hnear => ?_
          have hnl := hnear.1
          have hV := hI.V
          simp only [List.length_cons] at hV
          have hw0 : ∀ y, (0 ≤ y ∧ y < N) → gi (si w t false) y = true → y ≠ t ∧ gi w y = true := fun y hy h => by
            by_cases e : y = t
            · subst e; rw [gi_si_self ⟨hy.1, by omega⟩] at h; cases h
            · rw [gi_si_ne ht.1 hy.1 (Ne.symm e)] at h; exact ⟨e, h⟩
          refine Ok.bind (R := fun z : List Int × List Int × List Bool => SP N goal fr (Ed g c fr) (nb g t) (stp g c fr t) t 8 (2 * sumP d + rest.length) z.2.1 z.1 z.2.2 ∧ 0 ≤ gi z.2.1 t)
            (Ok.loop (fun z : Int × List Int × List Int × List Bool => (0 ≤ z.1 ∧ z.1 ≤ 8) ∧ SP N goal fr (Ed g c fr) (nb g t) (stp g c fr t) t z.1 (2 * sumP d + rest.length) z.2.1 z.2.2.1 z.2.2.2 ∧ 0 ≤ gi z.2.1 t) (fun z => (8 - z.1).toNat) ⟨by simp, ?_, htd.2⟩ (by unfold FUEL; simp) ?_) ?_
          · refine ⟨hdl, by show ((si w t false).length : Int) = N; rw [len_si]; exact hwl, fun x hx => hI.td x (List.mem_cons_of_mem _ hx), fun x hx hw => ?_, fun x hx h0 hn hxt => hI.J x hx h0 (fun e => ?_) (by omega), fun j hj => by have h1 := hj.1; have h2 : j < 0 := hj.2; omega, hI.sup, hI.Z, hI.R, hI.P, hI.W, Nat.le_refl _⟩
            · have h1 := hw0 x hx hw
              rcases List.mem_cons.1 (hI.wt x hx h1.2) with e | h
              · exact absurd e h1.1
              · exact h
            · rcases List.mem_cons.1 e with e | h
              · exact hxt e
              · exact hn h
          · rintro ⟨i, d1, td1, w1⟩ ⟨⟨i0, i1⟩, hJ, hd1t⟩
            dsimp only at i0 i1 hJ hd1t ⊢
            refine Ok.ite (fun hi => ?_) (fun hi => Ok.ret ?_)
            · rw [stepR_p hg hc (by rw [← hN]; exact hf) ht' hft hnear ⟨i0, hi⟩, bsome, hnear.2 i i0 hi]
              have hsb := stp_bd (fr := fr) (i := i) (c := c) hg hc ht'
              have h1l := hJ.dl
              have h1w := hJ.wl
              have h1V := hJ.V
              refine Ok.ite (fun hz => ?_) (fun hz => ?_)
              · refine Ok.gd (by unfold I64; omega) (Ok.ret ⟨⟨by show 0 ≤ i + 1 ∧ i + 1 ≤ 8; omega, ⟨hJ.dl, hJ.wl, hJ.td, hJ.wt, hJ.J, fun j hj hsj => ?_, hJ.sup, hJ.Z, hJ.R, hJ.P, hJ.W, hJ.V⟩, hd1t⟩, by show (8 - (i + 1)).toNat < _; omega⟩)
                have hj2 : j < i + 1 := hj.2
                by_cases e : j = i
                · subst e; omega
                · exact hJ.rel j ⟨hj.1, by omega⟩ hsj
              · have hs0 : 0 < stp g c fr t i := by omega
                have hFr := stp_fr hs0
                have hub : nb g t i < N := by rw [hN]; exact nb_bd hg hFr.1
                obtain ⟨u, huE⟩ : ∃ u, u = nb g t i := ⟨_, rfl⟩
                obtain ⟨s, hsE⟩ : ∃ s, s = stp g c fr t i := ⟨_, rfl⟩
                have hE : Ed g c fr t u s := ⟨i, ⟨i0, hi⟩, huE.symm, hsE.symm, by rw [hsE]; exact hs0⟩
                rw [← huE] at hFr hub ⊢
                rw [← hsE] at hs0 hsb ⊢
                have hu : 0 ≤ u ∧ u < N := ⟨hFr.1, hub⟩
                have hWt := hJ.W t ht
                have hal := asg_le d1
                refine Ok.gd (by omega) (Ok.gd (by omega) (Ok.gd (fun _ => by omega) (Ok.gd (fun _ => by omega) (Ok.gd (fun _ => by unfold I64; omega) (Ok.ite (fun hcnd => ?_) (fun hcnd => ?_))))))
                · refine Ok.gd (by unfold I64; omega) (Ok.ret ⟨⟨by show 0 ≤ i + 1 ∧ i + 1 ≤ 8; omega, ⟨hJ.dl, hJ.wl, hJ.td, hJ.wt, hJ.J, fun j hj hsj => ?_, hJ.sup, hJ.Z, hJ.R, hJ.P, hJ.W, hJ.V⟩, hd1t⟩, by show (8 - (i + 1)).toNat < _; omega⟩)
                  have hj2 : j < i + 1 := hj.2
                  by_cases e : j = i
                  · subst e
                    rw [← huE, ← hsE]; exact hcnd
                  · exact hJ.rel j ⟨hj.1, by omega⟩ hsj
                · have hnbb : ∀ j, 0 < stp g c fr t j → 0 ≤ nb g t j ∧ nb g t j < N := fun j hj => by
                    have := stp_fr hj
                    exact ⟨this.1, by rw [hN]; exact nb_bd hg this.1⟩
                  have upd := fun (todo' : List Int) (w' : List Bool) => SP.upd (todo' := todo') (w' := w') hJ ha.2 hgo ht hd1t hu hFr.2 huE.symm hsE.symm ⟨hs0, hsb.2⟩ hE hcnd hbE hnbb
                  refine Ok.gd (by omega) (Ok.gd (by unfold I64; omega) (Ok.gd (by omega) (Ok.gd (by omega) (Ok.ite (fun hwu => ?_) (fun hwu => ?_)))))
                  · have h7 := upd (td1 ++ [u]) (si w1 u true) (fun x hx => List.mem_append_left _ hx) (by simp) (fun x hx => by simpa using hx) (by simp) (by rw [len_si]; exact h1w) (fun y hy h => by
                      by_cases e : y = u
                      · exact .inl e
                      · rw [gi_si_ne hu.1 hy.1 (Ne.symm e)] at h; exact .inr h)
                    refine Ok.gd (by omega) (Ok.gd ?_ (Ok.gd (by unfold I64; omega) (Ok.ret ⟨⟨by show 0 ≤ i + 1 ∧ i + 1 ≤ 8; omega, h7.1, ?_⟩, by show (8 - (i + 1)).toNat < _; omega⟩)))
                    · omega
                    · show 0 ≤ gi (si d1 u (gi d1 t + s)) t
                      rw [h7.2]; exact hd1t
                  · have hwu' : gi w1 u = true := by
                      cases hh : gi w1 u with
                      | true => rfl
                      | false => rw [hh] at hwu; exact absurd rfl hwu
                    have h7 := upd td1 w1 (fun x hx => hx) (hJ.wt u hu hwu') (fun x hx => .inl hx) (by omega) h1w (fun y hy h => .inr h)
                    refine Ok.gd (by unfold I64; omega) (Ok.ret ⟨⟨by show 0 ≤ i + 1 ∧ i + 1 ≤ 8; omega, h7.1, ?_⟩, by show (8 - (i + 1)).toNat < _; omega⟩)
                    show 0 ≤ gi (si d1 u (gi d1 t + s)) t
                    rw [h7.2]; exact hd1t
            · have : i = 8 := by omega
              subst this
              exact ⟨hJ, hd1t⟩
          · rintro ⟨td1, d1, w1⟩ ⟨hJ, hd1t⟩
            dsimp only at hJ hd1t ⊢
            have h1V := hJ.V
            refine Ok.ret ⟨⟨hJ.dl, hJ.wl, hJ.td, hJ.wt, fun x hx h0 hn _ u k hE => ?_, fun j hj => by have h1 := hj.1; have h2 : j < 0 := hj.2; omega, hJ.sup, hJ.Z, hJ.R, hJ.P, hJ.W, by show 2 * sumP d1 + td1.length ≤ _; omega⟩, by show 2 * sumP d1 + td1.length < 2 * sumP d + (t :: rest).length; simp only [List.length_cons]; omega⟩
            by_cases e : x = t
            · subst e
              obtain ⟨j, hj, rfl, rfl, hk⟩ := hE
              exact hJ.rel j hj hk
            · exact hJ.J x hx h0 hn e u k hE
    · have hb : (!(gi fr goal)) = true := by cases hh : gi fr goal with
        | true => exact absurd hh hgf
        | false => rfl
      refine Ok.bindE (x := true) (by rw [if_pos hb]) ?_
      rw [if_pos rfl]
      exact Ok.ret ⟨by rw [← hN]; exact hd0l, fun t ht => by rw [← hN] at ht; rw [hd0 t ht]; omega, fun t ht h => by rw [← hN] at ht; rw [hd0 t ht] at h; omega, .inr ⟨hgf, fun t ht => hd0 t (by rw [hN]; exact ht)⟩⟩
end Go.Proofs.Ytgpjjcncdaelpaa
