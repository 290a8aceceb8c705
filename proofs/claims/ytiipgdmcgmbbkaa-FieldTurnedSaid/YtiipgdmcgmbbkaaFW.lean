
/-
  The search: the program's From finds the one table that says how far it is. The conditions stand in each lemma.
-/
import Derived.Test.YtiipgdmcgmbbkaaFV
set_option linter.unusedVariables false
set_option linter.unusedSimpArgs false
namespace Go.Proofs.Ytiipgdmcgmbbkaa
open Go.Vg Qp
/-- Where a round stands, whose tile is t: the first so many ways were looked at. -/
structure DI (N goal : Int) (fr : List Bool) (E : Int → Int → Int → Prop) (nbf st : Int → Int) (cost : Int) (cnt : Int) (L0 : Int) (d0 : List Int) (dn : List Bool) (i : Int) (d : List Int) (M : List Itm) : Prop where
  dl : (d.length : Int) = N
  len : (M.length : Int) ≤ L0 + i
  same : ∀ x, (0 ≤ x ∧ x < N) → gi dn x = true → gi d x = gi d0 x
  le : ∀ x, (0 ≤ x ∧ x < N) → 0 ≤ gi d0 x → 0 ≤ gi d x ∧ gi d x ≤ gi d0 x
  A : ∀ x ∈ M, (0 ≤ x.val ∧ x.val < N) ∧ 0 ≤ gi d x.val ∧ gi d x.val ≤ x.key ∧ cost ≤ x.key
  B : ∀ x, (0 ≤ x ∧ x < N) → 0 ≤ gi d x → ¬ gi dn x = true → (⟨gi d x, x⟩ : Itm) ∈ M
  rel : ∀ j, (0 ≤ j ∧ j < i) → 0 < st j → 0 ≤ gi d (nbf j) ∧ gi d (nbf j) ≤ cost + st j
  S : ∀ x, (0 ≤ x ∧ x < N) → x ≠ goal → 0 ≤ gi d x → ∃ u k, (0 ≤ u ∧ u < N) ∧ gi dn u = true ∧ E u x k ∧ 0 < k ∧ gi d u + k = gi d x
  Z : gi d goal = 0
  R : ∀ x, (0 ≤ x ∧ x < N) → -1 ≤ gi d x
  P : ∀ x, (0 ≤ x ∧ x < N) → 0 ≤ gi d x → gi fr x = true
  W : ∀ x, (0 ≤ x ∧ x < N) → gi d x ≤ 84 * (cnt + 1)
  V : ∀ x ∈ M, x.key ≤ 84 * (cnt + 1)
theorem from_b {g : Grd} {c : Int} {fr : List Bool} {goal : Int} {f : Int → Option Bool} (hg : GOk g) (hc : 0 ≤ c ∧ c ≤ 2) (hf : (fr.length : Int) = g.w * g.h) (hgo : 0 ≤ goal ∧ goal < g.w * g.h) (he : ∀ u, f u = some true) :
    Ok (field_Net_From ⟨g, c, fr⟩ goal f) fun d => (gi fr goal = true ∧ LD (g.w * g.h) (Ed g c fr) goal d ∧ (∀ t, (0 ≤ t ∧ t < g.w * g.h) → 0 ≤ gi d t → gi fr t = true) ∧ ∀ t, (0 ≤ t ∧ t < g.w * g.h) → gi d t ≤ 84 * 16384) ∨ (¬ gi fr goal = true ∧ d = List.replicate (g.w * g.h).toNat (-1)) := by
  have ha := hg.area
  have hgl := hg.2.2.1
  obtain ⟨N, hN⟩ : ∃ N, N = g.w * g.h := ⟨_, rfl⟩
  rw [← hN] at ha hgl hf hgo ⊢
  unfold field_Net_From
  have e1 : slices_Repeat_Int [(-1)] (((⟨g, c, fr⟩ : Net).g.tiles.length : Nat) : Int) = some (List.replicate N.toNat (-1)) := by
    show slices_Repeat_Int [(-1)] (g.tiles.length : Int) = _
    unfold slices_Repeat_Int
    rw [if_pos ⟨rfl, by omega, by omega⟩, hgl]; rfl
  rw [e1, bsome]
  refine Ok.gd (by show 0 ≤ goal ∧ goal < (fr.length : Int); omega) (Ok.ite (fun hfr => Ok.ret (.inr ⟨fun h => ?_, rfl⟩)) (fun hfr => ?_))
  · have hfr : (!(gi fr goal)) = true := hfr
    rw [h] at hfr; cases hfr
  · have hfg : gi fr goal = true := by
      have hfr : ¬ (!(gi fr goal)) = true := hfr
      cases hh : gi fr goal with
      | true => rfl
      | false => rw [hh] at hfr; exact absurd rfl hfr
    have hrl : ((List.replicate N.toNat (-1 : Int)).length : Int) = N := by simp; omega
    have hrn : ((List.replicate N.toNat (-1 : Int)).length : Int).toNat = N.toNat := by omega
    rw [hrl]
    refine Ok.gd (by omega) (Ok.gd (by omega) ?_)
    have eq : queue_New = some (some ⟨[]⟩) := rfl
    rw [eq, bsome, bsome]
    have gd0 : ∀ t, (0 ≤ t ∧ t < N) → gi (si (List.replicate N.toNat (-1)) goal 0) t = if t = goal then 0 else -1 := fun t ht => by
      by_cases h : t = goal
      · subst h; rw [if_pos rfl]; exact gi_si_self ⟨ht.1, by omega⟩
      · rw [if_neg h, gi_si_ne hgo.1 ht.1 (Ne.symm h)]; exact gi_replicate ⟨ht.1, by omega⟩
    have gn0 : ∀ t, (0 ≤ t ∧ t < N) → gi (List.replicate N.toNat false) t = false := fun t ht => gi_replicate ⟨ht.1, by omega⟩
    have cn0 : (List.replicate N.toNat false).count true = 0 := by rw [List.count_replicate]; simp
    refine Ok.bind (push_p (q := ⟨[]⟩) (fun j h0 h1 => by simp at h1) (by simp) 0 goal) fun q1 hq1 => ?_
    have hq1l : q1.l.length = 1 := by have := hq1.2.length_eq; simpa using this
    have hmem : ∀ x, x ∈ q1.l ↔ x = ⟨0, goal⟩ := fun x => by rw [hq1.2.mem_iff]; simp
    have hJ : DJ N goal fr (Ed g c fr) (si (List.replicate N.toNat (-1)) goal 0) (List.replicate N.toNat false) q1.l := by
      refine ⟨by rw [len_si]; exact hrl, by simp; omega, fun x hx => ?_, fun t ht h0 _ => ?_, fun t ht hd => ?_, fun t ht hd => ?_, fun t ht hne h0 => ?_, ?_, fun t ht => ?_, fun t ht h0 => ?_, fun t ht => ?_, fun x hx => ?_⟩
      · rw [hmem] at hx; subst hx
        dsimp only
        rw [gd0 goal hgo, if_pos rfl]; omega
      · rw [gd0 t ht] at h0 ⊢
        by_cases h : t = goal
        · rw [if_pos h]; exact (hmem _).2 (by rw [h])
        · rw [if_neg h] at h0; omega
      · rw [gn0 t ht] at hd; cases hd
      · rw [gn0 t ht] at hd; cases hd
      · rw [gd0 t ht, if_neg hne] at h0; omega
      · rw [gd0 goal hgo, if_pos rfl]
      · rw [gd0 t ht]; split <;> omega
      · rw [gd0 t ht] at h0
        by_cases h : t = goal
        · rw [h]; exact hfg
        · rw [if_neg h] at h0; omega
      · rw [gd0 t ht, cn0]; split <;> omega
      · rw [hmem] at hx; subst hx; rw [cn0]; show (0 : Int) ≤ _; omega
    refine Ok.bind (pop_dh hq1.1 (by omega) (by rw [cn0]; omega) hJ) fun p0 hp0 => ?_
    have hcle : ∀ dn : List Bool, (dn.length : Int) = N → (dn.count true : Int) ≤ N := fun dn h => by have := List.count_le_length (a := true) (l := dn); omega
    refine Ok.bind (R := fun z : Que × List Int => LD N (Ed g c fr) goal z.2 ∧ (∀ t, (0 ≤ t ∧ t < N) → 0 ≤ gi z.2 t → gi fr t = true) ∧ ∀ t, (0 ≤ t ∧ t < N) → gi z.2 t ≤ 84 * 16384) (Ok.loop (DH N goal fr (Ed g c fr)) (fun z => (10 * (N - (z.2.2.2.2.1.count true : Int))).toNat + z.2.2.2.2.2.l.length + (if z.2.2.1 = true then 1 else 0)) ?_ ?_ ?_) (fun z hz => Ok.ret (.inl ⟨hfg, hz⟩))
    · exact hp0.1
    · have h1 := hp0.2
      unfold FUEL
      show (10 * (N - ((List.replicate N.toNat false).count true : Int))).toNat + p0.2.2.2.l.length + (if p0.2.2.1 = true then 1 else 0) < _
      rw [cn0]; omega
    · rintro ⟨cost, t, ok, d, dn, q⟩ ⟨hh, hlq, hj1, hj0⟩
      dsimp only at hh hlq hj1 hj0 ⊢
      refine Ok.ite (fun hok => ?_) (fun hok => Ok.ret ?_)
      · obtain ⟨hj, hmin⟩ := hj1 hok
        have hA := hj.A ⟨cost, t⟩ List.mem_cons_self
        dsimp only at hA
        have ht := hA.1
        have hnl := hj.nl
        have hdl := hj.dl
        have hcN := hcle dn hnl
        refine Ok.gd (by omega) (Ok.ite (fun hdt => ?_) (fun hdt => ?_))
        · -- it was there before
          have hj' : DJ N goal fr (Ed g c fr) d dn q.l := by
            refine ⟨hj.dl, hj.nl, fun x hx => hj.A x (List.mem_cons_of_mem _ hx), fun x hx h0 hd => ?_, hj.C, fun x hx hd y hy => hj.D x hx hd y (List.mem_cons_of_mem _ hy), hj.S, hj.Z, hj.R, hj.P, hj.W, fun x hx => hj.V x (List.mem_cons_of_mem _ hx)⟩
            rcases List.mem_cons.1 (hj.B x hx h0 hd) with h | h
            · cases h; exact absurd hdt hd
            · exact h
          refine Ok.bind (pop_dh hh (by omega) (by omega) hj') fun p hp => Ok.ret ⟨hp.1, ?_⟩
          have := hp.2
          show (10 * (N - (dn.count true : Int))).toNat + p.2.2.2.l.length + (if p.2.2.1 = true then 1 else 0) < (10 * (N - (dn.count true : Int))).toNat + q.l.length + (if ok = true then 1 else 0)
          rw [if_pos hok]; omega
        · -- a tile is done
          have hcost : gi d t = cost := by
            rcases List.mem_cons.1 (hj.B t ht hA.2.1 hdt) with h | h
            · exact congrArg Itm.key h
            · have := hmin _ h; dsimp only at this; omega
          have hcb : cost ≤ 84 * (dn.count true : Int) := hj.V ⟨cost, t⟩ List.mem_cons_self
          refine Ok.gd (by omega) ?_
          refine Ok.bind (beside_b hg (t := t) (by rw [← hN]; exact ht)) fun near hnear => ?_
          have hnl8 := hnear.1
          refine Ok.gd ⟨by simp, hnl8⟩ (Ok.gd hnl8 ?_)
          obtain ⟨dn1, hdn1⟩ : ∃ dn1, dn1 = si dn t true := ⟨_, rfl⟩
          have hd1l : (dn1.length : Int) = N := by rw [hdn1, len_si]; exact hnl
          have hcnt : (dn1.count true : Int) = dn.count true + 1 := by rw [hdn1]; exact count_si ⟨ht.1, by omega⟩ hdt
          have hd1 : ∀ x, (0 ≤ x ∧ x < N) → (gi dn1 x = true ↔ x = t ∨ gi dn x = true) := fun x hx => by
            rw [hdn1]
            by_cases h : x = t
            · subst h; rw [gi_si_self ⟨hx.1, by omega⟩]; simp
            · rw [gi_si_ne ht.1 hx.1 (Ne.symm h)]; simp [h]
          rw [← hdn1]
          have hbE : ∀ {x u k : Int}, (0 ≤ x ∧ x < N) → Ed g c fr x u k → (0 ≤ u ∧ u < N) ∧ gi fr u = true ∧ 0 < k ∧ k ≤ 84 := fun hx h => by
            have := h.bd hg hc (by rw [← hN]; exact hx)
            rw [← hN] at this; exact this
          refine Ok.bind (R := fun z : Que × List Int => Heap z.1.l ∧ DI N goal fr (Ed g c fr) (nb g t) (stp g c fr t) cost (dn.count true) q.l.length d dn1 8 z.2 z.1.l)
            (Ok.loop (fun z : Int × List Int × Que => (0 ≤ z.1 ∧ z.1 ≤ 8) ∧ Heap z.2.2.l ∧ DI N goal fr (Ed g c fr) (nb g t) (stp g c fr t) cost (dn.count true) q.l.length d dn1 z.1 z.2.1 z.2.2.l) (fun z => (8 - z.1).toNat) ⟨by simp, hh, ?_⟩ (by unfold FUEL; simp) ?_) ?_
          · refine ⟨hdl, by simp, fun _ _ _ => rfl, fun x hx h0 => ⟨h0, Int.le_refl _⟩, fun x hx => ?_, fun x hx h0 hd => ?_, fun j hj' => (by have h1 : 0 ≤ j := hj'.1; have h2 : j < 0 := hj'.2; omega), fun x hx hne h0 => ?_, hj.Z, hj.R, hj.P, fun x hx => ?_, fun x hx => ?_⟩
            · have h1 := hj.A x (List.mem_cons_of_mem _ hx)
              exact ⟨h1.1, h1.2.1, h1.2.2, hmin x hx⟩
            · have hne : ¬ (x = t ∨ gi dn x = true) := fun h => hd ((hd1 x hx).2 h)
              rcases List.mem_cons.1 (hj.B x hx h0 (fun h => hne (.inr h))) with h | h
              · cases h; exact absurd (.inl rfl) hne
              · exact h
            · obtain ⟨u, k, hu, hdu, h1⟩ := hj.S x hx hne h0
              exact ⟨u, k, hu, (hd1 u hu).2 (.inr hdu), h1⟩
            · have := hj.W x hx; show gi d x ≤ _; omega
            · have := hj.V x (List.mem_cons_of_mem _ hx); omega
          · rintro ⟨i, d1, q1⟩ ⟨⟨i0, i1⟩, hh1, hI⟩
            dsimp only at i0 i1 hh1 hI ⊢
            refine Ok.ite (fun hi => ?_) (fun hi => Ok.ret ?_)
            rotate_left
            · obtain rfl : i = 8 := by omega
              exact ⟨hh1, hI⟩
            refine Ok.gd ⟨i0, hi, hnl8⟩ (Ok.gd hnl8 ?_)
            have hi8 : 0 ≤ i ∧ i < 8 := ⟨i0, hi⟩
            rw [step_p hg hc (by rw [← hN]; exact hf) (by rw [← hN]; exact ht) hnear hi8 he, bsome, hnear.2 i i0 hi]
            have hsb := stp_bd (fr := fr) (i := i) hg hc (t := t) (by rw [← hN]; exact ht)
            have hu : 0 < stp g c fr t i → (0 ≤ nb g t i ∧ nb g t i < N) ∧ gi fr (nb g t i) = true := fun h => by
              have := stp_fr h
              exact ⟨⟨this.1, by rw [hN]; exact nb_bd hg this.1⟩, this.2⟩
            have hd1l' := hI.dl
            have hmlen := hI.len
            refine Ok.gd (fun h => by have := hu h; omega) (Ok.gd (fun h => by have := hu h.1; omega) (Ok.gd (fun h _ => by unfold I64; omega) (Ok.gd (fun h _ => by have := hu h.1; omega) (Ok.ite (fun hcnd => ?_) (fun hcnd => ?_)))))
            · obtain ⟨⟨hs, hnd⟩, hless⟩ := hcnd
              obtain ⟨hub, huf⟩ := hu hs
              have hnd' : ¬ gi dn1 (nb g t i) = true := fun h => by rw [h] at hnd; cases hnd
              refine Ok.gd (by unfold I64; omega) (Ok.gd (by omega) (Ok.gd (by unfold I64; omega) ?_))
              refine Ok.bind (push_p hh1 (by omega) (cost + stp g c fr t i) (nb g t i)) fun q2 hq2 => ?_
              refine Ok.gd (by unfold I64; omega) (Ok.ret ⟨⟨by show 0 ≤ i + 1 ∧ i + 1 ≤ 8; omega, hq2.1, ?_⟩, by show (8 - (i + 1)).toNat < _; omega⟩)
              show DI N goal fr (Ed g c fr) (nb g t) (stp g c fr t) cost (dn.count true) q.l.length d dn1 (i + 1) (si d1 (nb g t i) (cost + stp g c fr t i)) q2.l
              obtain ⟨u, huE⟩ : ∃ u, u = nb g t i := ⟨_, rfl⟩
              obtain ⟨s, hsE⟩ : ∃ s, s = stp g c fr t i := ⟨_, rfl⟩
              rw [← huE] at hub huf hnd' hless hq2 ⊢
              rw [← hsE] at hs hless hsb hq2 ⊢
              have hgs : ∀ x, (0 ≤ x ∧ x < N) → gi (si d1 u (cost + s)) x = if x = u then cost + s else gi d1 x := fun x hx => by
                by_cases h : x = u
                · subst h; rw [if_pos rfl]; exact gi_si_self ⟨hx.1, by omega⟩
                · rw [if_neg h]; exact gi_si_ne hub.1 hx.1 (Ne.symm h)
              have hmem2 : ∀ x, x ∈ q2.l ↔ x = ⟨cost + s, u⟩ ∨ x ∈ q1.l := fun x => by rw [hq2.2.mem_iff]; simp
              have hc0 : 0 ≤ cost := by omega
              have hdec : 0 ≤ gi d1 u → cost + s < gi d1 u := fun h => by omega
              refine ⟨by rw [len_si]; exact hI.dl, ?_, fun x hx hd => ?_, fun x hx h0 => ?_, fun x hx => ?_, fun x hx h0 hd => ?_, fun j hj' hsj => ?_, fun x hx hne h0 => ?_, ?_, fun x hx => ?_, fun x hx h0 => ?_, fun x hx => ?_, fun x hx => ?_⟩
              · have := hq2.2.length_eq
                simp at this; omega
              · rw [hgs x hx, if_neg (fun h => hnd' (by rw [← h]; exact hd))]; exact hI.same x hx hd
              · rw [hgs x hx]
                have h1 := hI.le x hx h0
                by_cases h : x = u
                · rw [if_pos h]; subst h; have := hdec h1.1; omega
                · rw [if_neg h]; exact h1
              · rcases (hmem2 x).1 hx with rfl | hx
                · dsimp only
                  rw [hgs u hub, if_pos rfl]
                  exact ⟨hub, by omega, Int.le_refl _, by omega⟩
                · have h1 := hI.A x hx
                  rw [hgs x.val h1.1]
                  refine ⟨h1.1, ?_⟩
                  by_cases h : x.val = u
                  · rw [if_pos h]
                    have h2 : 0 ≤ gi d1 u := by rw [← h]; exact h1.2.1
                    have := hdec h2
                    rw [h] at h1
                    omega
                  · rw [if_neg h]; exact h1.2
              · rw [hgs x hx] at h0 ⊢
                by_cases h : x = u
                · subst h; rw [if_pos rfl]; exact (hmem2 _).2 (.inl rfl)
                · rw [if_neg h] at h0 ⊢; exact (hmem2 _).2 (.inr (hI.B x hx h0 hd))
              · by_cases hji : j = i
                · subst hji
                  rw [← huE, ← hsE, hgs u hub, if_pos rfl]; omega
                · have h1 := hI.rel j ⟨hj'.1, by have := hj'.2; omega⟩ hsj
                  have h2 := stp_fr hsj
                  have h3 : nb g t j < N := by rw [hN]; exact nb_bd hg h2.1
                  rw [hgs _ ⟨h2.1, h3⟩]
                  by_cases h : nb g t j = u
                  · rw [if_pos h]
                    rw [h] at h1
                    have := hdec h1.1
                    omega
                  · rw [if_neg h]; exact h1
              · rw [hgs x hx] at h0
                by_cases h : x = u
                · subst h
                  refine ⟨t, s, ht, (hd1 t ht).2 (.inl rfl), ⟨i, hi8, huE.symm, hsE.symm, hs⟩, hs, ?_⟩
                  have hne2 : t ≠ x := fun h => hnd' ((hd1 x hx).2 (.inl h.symm))
                  rw [hgs x hx, if_pos rfl, hgs t ht, if_neg hne2, hI.same t ht ((hd1 t ht).2 (.inl rfl)), hcost]
                · rw [if_neg h] at h0
                  obtain ⟨v, k, hv, hdv, h1, h2, h3⟩ := hI.S x hx hne h0
                  refine ⟨v, k, hv, hdv, h1, h2, ?_⟩
                  rw [hgs x hx, if_neg h, hgs v hv, if_neg (fun h => hnd' (by rw [← h]; exact hdv))]; exact h3
              · rw [hgs goal hgo]
                by_cases h : goal = u
                · have h1 := hI.Z
                  rw [h] at h1
                  have := hdec (by omega)
                  omega
                · rw [if_neg h]; exact hI.Z
              · rw [hgs x hx]; split
                · omega
                · exact hI.R x hx
              · rw [hgs x hx] at h0
                by_cases h : x = u
                · rw [h]; exact huf
                · rw [if_neg h] at h0; exact hI.P x hx h0
              · rw [hgs x hx]; split
                · omega
                · exact hI.W x hx
              · rcases (hmem2 x).1 hx with rfl | hx
                · show cost + s ≤ _; omega
                · exact hI.V x hx
            · refine Ok.gd (by unfold I64; omega) (Ok.ret ⟨⟨by show 0 ≤ i + 1 ∧ i + 1 ≤ 8; omega, hh1, ?_⟩, by show (8 - (i + 1)).toNat < _; omega⟩)
              refine ⟨hI.dl, by show (q1.l.length : Int) ≤ _ + (i + 1); omega, hI.same, hI.le, hI.A, hI.B, fun j hj' hsj => ?_, hI.S, hI.Z, hI.R, hI.P, hI.W, hI.V⟩
              by_cases hji : j = i
              · subst hji
                obtain ⟨hub, huf⟩ := hu hsj
                by_cases hdu : gi dn1 (nb g t j) = true
                · have h1 := hI.same _ hub hdu
                  show 0 ≤ gi d1 (nb g t j) ∧ gi d1 (nb g t j) ≤ cost + stp g c fr t j
                  rw [h1]
                  rcases (hd1 _ hub).1 hdu with h2 | h2
                  · rw [h2, hcost]; omega
                  · have h3 := (hj.C _ hub h2).1
                    have h4 := hj.D _ hub h2 ⟨cost, t⟩ List.mem_cons_self
                    dsimp only at h4
                    omega
                · apply Classical.byContradiction; intro hn
                  have hn : ¬ (0 ≤ gi d1 (nb g t j) ∧ gi d1 (nb g t j) ≤ cost + stp g c fr t j) := hn
                  apply hcnd
                  refine ⟨⟨hsj, ?_⟩, by omega⟩
                  cases hh : gi dn1 (nb g t j) with
                  | true => exact absurd hh hdu
                  | false => rfl
              · exact hI.rel j ⟨hj'.1, by have : j < i + 1 := hj'.2; omega⟩ hsj
          · rintro ⟨q1, d1⟩ ⟨hh1, hI⟩
            dsimp only at hh1 hI ⊢
            have hmlen := hI.len
            have hJ1 : DJ N goal fr (Ed g c fr) d1 dn1 q1.l := by
              refine ⟨hI.dl, hd1l, fun x hx => ⟨(hI.A x hx).1, (hI.A x hx).2.1, (hI.A x hx).2.2.1⟩, hI.B, fun x hx hd => ?_, fun x hx hd y hy => ?_, hI.S, hI.Z, hI.R, hI.P, fun x hx => by rw [hcnt]; exact hI.W x hx, fun x hx => by rw [hcnt]; exact hI.V x hx⟩
              · rw [hI.same x hx hd]
                rcases (hd1 x hx).1 hd with h | h
                · subst h
                  refine ⟨hA.2.1, fun u k hE => ?_⟩
                  obtain ⟨j, hj8, rfl, rfl, hk⟩ := hE
                  have := hI.rel j hj8 hk
                  rw [hcost]; exact this
                · have h1 := hj.C x hx h
                  refine ⟨h1.1, fun u k hE => ?_⟩
                  have h2 := h1.2 u k hE
                  have h3 := hI.le u (hbE hx hE).1 h2.1
                  omega
              · have h1 := (hI.A y hy).2.2.2
                rw [hI.same x hx hd]
                rcases (hd1 x hx).1 hd with h | h
                · rw [h, hcost]; exact h1
                · have := hj.D x hx h ⟨cost, t⟩ List.mem_cons_self
                  dsimp only at this; omega
            refine Ok.bind (pop_dh hh1 (by omega) (by rw [hcnt]; omega) hJ1) fun p hp => Ok.ret ⟨hp.1, ?_⟩
            have h1 := hp.2
            have h2 := hcle dn1 hd1l
            show (10 * (N - (dn1.count true : Int))).toNat + p.2.2.2.l.length + (if p.2.2.1 = true then 1 else 0) < (10 * (N - (dn.count true : Int))).toNat + q.l.length + (if ok = true then 1 else 0)
            rw [if_pos hok, hcnt]
            omega
      · have hokf : ok = false := by cases ok <;> simp_all
        obtain ⟨hj, _⟩ := hj0 hokf
        have := hcle dn hj.nl
        exact ⟨hj.fin, hj.P, fun t ht => by have := hj.W t ht; show gi d t ≤ _; omega⟩
end Go.Proofs.Ytiipgdmcgmbbkaa
