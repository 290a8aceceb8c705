
/-
  Steps, and how far it is, told by what holds between tiles beside: that is one table alone. The program's search finds it. The conditions stand in each lemma.
-/
import Derived.Test.YtiipgdmcgmbbkaaFS
import Derived.Test.YtiipgdmcgmbbkaaFU
set_option linter.unusedVariables false
set_option linter.unusedSimpArgs false
namespace Go.Proofs.Ytiipgdmcgmbbkaa
open Go.Vg Qp
def Sd1 (i : Int) : Int := gi [0, 0, 0, 0, 0, 1, 2, 3] i
def Sd2 (i : Int) : Int := gi [0, 0, 0, 0, 1, 2, 3, 0] i
theorem sd_bd {i : Int} (h : 0 ≤ i ∧ i < 8) : (0 ≤ Sd1 i ∧ Sd1 i < 4) ∧ (0 ≤ Sd2 i ∧ Sd2 i < 4) := by
  obtain ⟨a, ha⟩ : ∃ a : Fin 8, ((a.val : Nat) : Int) = i := ⟨⟨i.toNat, by omega⟩, by simp; omega⟩
  subst ha
  revert a
  decide +kernel
/-- A tile that there is, and that is free. -/
def Fr (fr : List Bool) (u : Int) : Prop := 0 ≤ u ∧ gi fr u = true
instance (fr : List Bool) (u : Int) : Decidable (Fr fr u) := by unfold Fr; exact inferInstance
def tc (g : Grd) (c t : Int) : Int := pr c ((gi g.tiles t).toNat : Int)
/-- What the step from a tile by a way costs; 0: there is none. -/
def stp (g : Grd) (c : Int) (fr : List Bool) (t i : Int) : Int :=
  if Fr fr (nb g t i) then (if i < 4 then 5 * (tc g c t + tc g c (nb g t i)) else if Fr fr (nb g t (Sd1 i)) ∧ Fr fr (nb g t (Sd2 i)) then 7 * (tc g c t + tc g c (nb g t i)) else 0) else 0
theorem nb_bd {g : Grd} (hg : GOk g) {t i : Int} (h : 0 ≤ nb g t i) : nb g t i < g.w * g.h := by
  unfold nb at h ⊢
  by_cases hon : On g (t % g.w + DX i) (t / g.w + DY i)
  · rw [if_pos hon]; exact (hon.bd hg).1.2
  · rw [if_neg hon] at h; omega
theorem tc_bd {g : Grd} {c : Int} (hg : GOk g) (hc : 0 ≤ c ∧ c ≤ 2) {t : Int} (ht : 0 ≤ t ∧ t < g.w * g.h) : 0 ≤ tc g c t ∧ tc g c t ≤ 6 := pr_bd hc ⟨by omega, hg.2.2.2 t ht.1 (by have := hg.2.2.1; omega)⟩
theorem stp_bd {g : Grd} {c : Int} {fr : List Bool} (hg : GOk g) (hc : 0 ≤ c ∧ c ≤ 2) {t i : Int} (ht : 0 ≤ t ∧ t < g.w * g.h) : 0 ≤ stp g c fr t i ∧ stp g c fr t i ≤ 84 := by
  unfold stp
  split
  · rename_i h
    have h1 := tc_bd hg hc ht
    have h2 := tc_bd hg hc ⟨h.1, nb_bd hg h.1⟩
    split
    · omega
    · split <;> omega
  · omega
theorem stp_fr {g : Grd} {c : Int} {fr : List Bool} {t i : Int} (h : 0 < stp g c fr t i) : Fr fr (nb g t i) := by
  unfold stp at h
  split at h
  · assumption
  · omega
theorem step_p {g : Grd} {c : Int} {fr : List Bool} {t i : Int} {near : List Int} {f : Int → Option Bool} (hg : GOk g) (hc : 0 ≤ c ∧ c ≤ 2) (hf : (fr.length : Int) = g.w * g.h) (ht : 0 ≤ t ∧ t < g.w * g.h) (hn : Nbs g t near) (hi : 0 ≤ i ∧ i < 8) (he : ∀ u, f u = some true) : field_Net_Step ⟨g, c, fr⟩ t near i f = some (stp g c fr t i) := by
  have hgl := hg.2.2.1
  have hgt := hg.2.2.2
  obtain ⟨hnl, hnb⟩ := hn
  have hs := sd_bd hi
  have bnd : ∀ j, ¬ nb g t j < 0 → nb g t j < (fr.length : Int) := fun j h => by have := nb_bd hg (t := t) (i := j) (by omega); omega
  unfold field_Net_Step
  rw [hnb i hi.1 hi.2]
  refine Ok.eq (Ok.gd ⟨hi.1, hi.2, hnl⟩ (Ok.gd (fun h => ⟨by omega, bnd i h⟩) ?_))
  unfold stp
  by_cases h1 : Fr fr (nb g t i)
  · have h1' := h1
    obtain ⟨h2, h3⟩ := h1'
    have hub := nb_bd hg h2
    refine Ok.bindE (x := false) (by rw [if_neg (by rw [h3]; simp; omega), he]; rfl) ?_
    rw [if_neg (by simp), if_pos h1, if_pos (by show 0 ≤ t ∧ t < (g.tiles.length : Int); omega)]
    rw [price_p hc ⟨by omega, hgt t ht.1 (by omega)⟩, bsome, if_pos (by show 0 ≤ nb g t i ∧ nb g t i < (g.tiles.length : Int); omega), price_p hc ⟨by omega, hgt _ h2 (by omega)⟩, bsome]
    have t1 := tc_bd hg hc ht
    have t2 := tc_bd hg hc ⟨h2, hub⟩
    show Ok (if I64 (tc g c t + tc g c (nb g t i)) then _ else none) _
    refine Ok.gd (by unfold I64; omega) ?_
    by_cases h4 : i < 4
    · rw [if_pos h4, if_pos h4]
      exact Ok.gd (by show I64 (5 * (tc g c t + tc g c (nb g t i))); unfold I64; omega) (Ok.ret rfl)
    · rw [if_neg h4, if_neg h4]
      have es : field_sides i = some (Sd1 i, Sd2 i) := by unfold field_sides; rw [if_pos ⟨hi.1, hi.2, rfl⟩, if_pos ⟨hi.1, hi.2, rfl⟩]; rfl
      rw [es, bsome]
      dsimp only
      rw [hnb _ hs.1.1 (by omega), hnb _ hs.2.1 (by omega)]
      refine Ok.gd ⟨by omega, by omega, hnl⟩ (Ok.gd (fun _ => ⟨by omega, by omega, hnl⟩) (Ok.gd (fun _ => ⟨by omega, by omega, hnl⟩) (Ok.gd (fun h => ⟨by omega, bnd _ (by omega)⟩) (Ok.gd (fun _ => ⟨by omega, by omega, hnl⟩) (Ok.gd (fun h => ⟨by omega, bnd _ (by omega)⟩) ?_)))))
      by_cases h5 : Fr fr (nb g t (Sd1 i)) ∧ Fr fr (nb g t (Sd2 i))
      · have h5' := h5
        obtain ⟨⟨a1, a2⟩, a3, a4⟩ := h5'
        rw [if_pos h5]
        refine Ok.bindE (x := false) (by rw [if_neg (by rw [a2, a4]; simp; omega), if_pos ⟨by omega, by omega, hnl⟩, he]; rfl) (Ok.bindE (x := false) (by rw [if_neg (by simp), if_pos ⟨by omega, by omega, hnl⟩, he]; rfl) ?_)
        rw [if_neg (by simp)]
        exact Ok.gd (by show I64 (7 * (tc g c t + tc g c (nb g t i))); unfold I64; omega) (Ok.ret rfl)
      · rw [if_neg h5]
        have hb : ((nb g t (Sd1 i) < 0 ∨ nb g t (Sd2 i) < 0) ∨ (!gi fr (nb g t (Sd1 i))) = true) ∨ (!gi fr (nb g t (Sd2 i))) = true := by
          apply Classical.byContradiction; intro hn
          apply h5
          refine ⟨⟨by omega, ?_⟩, by omega, ?_⟩
          · cases hh : gi fr (nb g t (Sd1 i)) with
            | true => rfl
            | false => exact absurd (.inl (.inr (by rw [hh]; rfl))) hn
          · cases hh : gi fr (nb g t (Sd2 i)) with
            | true => rfl
            | false => exact absurd (.inr (by rw [hh]; rfl)) hn
        refine Ok.bindE (x := true) (by rw [if_pos hb]) (Ok.bindE (x := true) (by rw [if_pos rfl]) ?_)
        rw [if_pos rfl]
        exact Ok.ret rfl
  · rw [if_neg h1]
    have hb : nb g t i < 0 ∨ (!gi fr (nb g t i)) = true := by
      apply Classical.byContradiction; intro hn
      refine h1 ⟨by omega, ?_⟩
      cases hh : gi fr (nb g t i) with
      | true => rfl
      | false => exact absurd (.inr (by rw [hh]; rfl)) hn
    refine Ok.bindE (x := true) (by rw [if_pos hb]) ?_
    rw [if_pos rfl]
    exact Ok.ret rfl
/-- A step. -/
def Ed (g : Grd) (c : Int) (fr : List Bool) (t u k : Int) : Prop := ∃ i, (0 ≤ i ∧ i < 8) ∧ nb g t i = u ∧ stp g c fr t i = k ∧ 0 < k
theorem Ed.bd {g : Grd} {c : Int} {fr : List Bool} (hg : GOk g) (hc : 0 ≤ c ∧ c ≤ 2) {t u k : Int} (ht : 0 ≤ t ∧ t < g.w * g.h) (h : Ed g c fr t u k) : (0 ≤ u ∧ u < g.w * g.h) ∧ gi fr u = true ∧ 0 < k ∧ k ≤ 84 := by
  obtain ⟨i, hi, rfl, rfl, hk⟩ := h
  have h1 := stp_fr hk
  exact ⟨⟨h1.1, nb_bd hg h1.1⟩, h1.2, hk, (stp_bd hg hc ht).2⟩
/-- How far it is, told between tiles beside. -/
structure LD (N : Int) (E : Int → Int → Int → Prop) (goal : Int) (d : List Int) : Prop where
  len : (d.length : Int) = N
  ge : ∀ t, 0 ≤ t → t < N → -1 ≤ gi d t
  zero : gi d goal = 0
  edge : ∀ t u k, (0 ≤ t ∧ t < N) → 0 ≤ gi d t → E t u k → 0 ≤ gi d u ∧ gi d u ≤ gi d t + k
  sup : ∀ t, (0 ≤ t ∧ t < N) → t ≠ goal → 0 ≤ gi d t → ∃ u k, (0 ≤ u ∧ u < N) ∧ E u t k ∧ 0 < k ∧ 0 ≤ gi d u ∧ gi d u + k = gi d t
theorem LD.le {N goal : Int} {E E' : Int → Int → Int → Prop} {d d' : List Int} (h : LD N E goal d) (h' : LD N E' goal d') (hE : ∀ t u k, (0 ≤ t ∧ t < N) → 0 ≤ gi d t → E t u k → ∃ k', k' ≤ k ∧ E' t u k') : ∀ t, (0 ≤ t ∧ t < N) → 0 ≤ gi d t → 0 ≤ gi d' t ∧ gi d' t ≤ gi d t := by
  have key : ∀ n : Nat, ∀ t, (0 ≤ t ∧ t < N) → 0 ≤ gi d t → gi d t ≤ n → 0 ≤ gi d' t ∧ gi d' t ≤ gi d t := by
    intro n
    induction n with
    | zero =>
      intro t ht h0 hn
      by_cases hg : t = goal
      · subst hg; rw [h'.zero, h.zero]; omega
      · obtain ⟨u, k, hu, he, hk, hd, hs⟩ := h.sup t ht hg h0
        omega
    | succ n ih =>
      intro t ht h0 hn
      by_cases hg : t = goal
      · subst hg; rw [h'.zero, h.zero]; omega
      · obtain ⟨u, k, hu, he, hk, hd, hs⟩ := h.sup t ht hg h0
        have h1 := ih u hu hd (by omega)
        obtain ⟨k', hk', he'⟩ := hE u t k hu hd he
        have := h'.edge u t k' hu h1.1 he'
        omega
  exact fun t ht h0 => key (gi d t).toNat t ht h0 (by omega)
theorem LD.uniq {N goal : Int} {E : Int → Int → Int → Prop} {d d' : List Int} (h : LD N E goal d) (h' : LD N E goal d') : d = d' := by
  refine ext_gi (by have := h.len; have := h'.len; omega) fun t t0 t1 => ?_
  have ht : 0 ≤ t ∧ t < N := by have := h.len; omega
  have a := h.le h' (fun t u k _ _ he => ⟨k, Int.le_refl _, he⟩) t ht
  have b := h'.le h (fun t u k _ _ he => ⟨k, Int.le_refl _, he⟩) t ht
  have c := h.ge t ht.1 ht.2
  have e := h'.ge t ht.1 ht.2
  by_cases hd : 0 ≤ gi d t
  · have := a hd; have := b this.1; omega
  · by_cases hd' : 0 ≤ gi d' t
    · have := b hd'; omega
    · omega
/-- Where the search stands. -/
structure DJ (N goal : Int) (fr : List Bool) (E : Int → Int → Int → Prop) (d : List Int) (dn : List Bool) (M : List Itm) : Prop where
  dl : (d.length : Int) = N
  nl : (dn.length : Int) = N
  A : ∀ x ∈ M, (0 ≤ x.val ∧ x.val < N) ∧ 0 ≤ gi d x.val ∧ gi d x.val ≤ x.key
  B : ∀ t, (0 ≤ t ∧ t < N) → 0 ≤ gi d t → ¬ gi dn t = true → (⟨gi d t, t⟩ : Itm) ∈ M
  C : ∀ t, (0 ≤ t ∧ t < N) → gi dn t = true → 0 ≤ gi d t ∧ ∀ u k, E t u k → 0 ≤ gi d u ∧ gi d u ≤ gi d t + k
  D : ∀ t, (0 ≤ t ∧ t < N) → gi dn t = true → ∀ x ∈ M, gi d t ≤ x.key
  S : ∀ t, (0 ≤ t ∧ t < N) → t ≠ goal → 0 ≤ gi d t → ∃ u k, (0 ≤ u ∧ u < N) ∧ gi dn u = true ∧ E u t k ∧ 0 < k ∧ gi d u + k = gi d t
  Z : gi d goal = 0
  R : ∀ t, (0 ≤ t ∧ t < N) → -1 ≤ gi d t
  P : ∀ t, (0 ≤ t ∧ t < N) → 0 ≤ gi d t → gi fr t = true
  W : ∀ t, (0 ≤ t ∧ t < N) → gi d t ≤ 84 * (dn.count true : Int)
  V : ∀ x ∈ M, x.key ≤ 84 * (dn.count true : Int)
theorem DJ.congr {N goal : Int} {fr : List Bool} {E : Int → Int → Int → Prop} {d : List Int} {dn : List Bool} {M M' : List Itm} (h : DJ N goal fr E d dn M) (hm : ∀ x, x ∈ M ↔ x ∈ M') : DJ N goal fr E d dn M' :=
  ⟨h.dl, h.nl, fun x hx => h.A x ((hm x).2 hx), fun t ht h0 hd => (hm _).1 (h.B t ht h0 hd), h.C, fun t ht hd x hx => h.D t ht hd x ((hm x).2 hx), h.S, h.Z, h.R, h.P, h.W, fun x hx => h.V x ((hm x).2 hx)⟩
theorem DJ.fin {N goal : Int} {fr : List Bool} {E : Int → Int → Int → Prop} {d : List Int} {dn : List Bool} (h : DJ N goal fr E d dn []) : LD N E goal d := by
  have hd : ∀ t, (0 ≤ t ∧ t < N) → 0 ≤ gi d t → gi dn t = true := fun t ht h0 => Classical.byContradiction fun hn => by cases h.B t ht h0 hn
  refine ⟨h.dl, fun t t0 t1 => h.R t ⟨t0, t1⟩, h.Z, fun t u k ht h0 he => (h.C t ht (hd t ht h0)).2 u k he, fun t ht hg h0 => ?_⟩
  obtain ⟨u, k, hu, hdu, he, hk, hs⟩ := h.S t ht hg h0
  exact ⟨u, k, hu, he, hk, (h.C u hu hdu).1, hs⟩
/-- Ahead of a round: what came out of the queue stands beside it. -/
def DH (N goal : Int) (fr : List Bool) (E : Int → Int → Int → Prop) (z : Int × Int × Bool × List Int × List Bool × Que) : Prop :=
  Heap z.2.2.2.2.2.l ∧ (z.2.2.2.2.2.l.length : Int) ≤ 1 + 8 * (z.2.2.2.2.1.count true : Int) ∧ (z.2.2.1 = true → DJ N goal fr E z.2.2.2.1 z.2.2.2.2.1 (⟨z.1, z.2.1⟩ :: z.2.2.2.2.2.l) ∧ ∀ x ∈ z.2.2.2.2.2.l, z.1 ≤ x.key) ∧ (z.2.2.1 = false → DJ N goal fr E z.2.2.2.1 z.2.2.2.2.1 [] ∧ z.2.2.2.2.2.l = [])
theorem pop_dh {N goal : Int} {fr : List Bool} {E : Int → Int → Int → Prop} {d : List Int} {dn : List Bool} {q : Que} (hh : Heap q.l) (hl : q.l.length < 1000000) (hc : (q.l.length : Int) ≤ 1 + 8 * (dn.count true : Int)) (h : DJ N goal fr E d dn q.l) :
    Ok (queue_Queue_Pop q) fun r => DH N goal fr E (r.1, r.2.1, r.2.2.1, d, dn, r.2.2.2) ∧ r.2.2.2.l.length + (if r.2.2.1 = true then 1 else 0) = q.l.length := by
  refine Ok.mono (pop_p hh hl) ?_
  rintro ⟨k, v, ok, q'⟩ hr
  rcases hr with ⟨h1, h2, h3⟩ | ⟨h1, h2, h3, h4⟩
  · dsimp only at h2 h3
    subst h2; subst h3
    refine ⟨⟨hh, hc, fun e => (by cases e), fun _ => ⟨by rw [h1] at h; exact h, h1⟩⟩, by simp⟩
  · dsimp only at h1 h2 h3 h4
    subst h1
    have hlen := h3.length_eq
    simp at hlen
    refine ⟨⟨h2, by show (q'.l.length : Int) ≤ 1 + 8 * (dn.count true : Int); omega, fun _ => ⟨h.congr fun x => h3.mem_iff.symm, fun x hx => ?_⟩, fun e => (by cases e)⟩, by simpa using hlen⟩
    have := h4 x (h3.mem_iff.1 (List.mem_cons_of_mem _ hx))
    unfold Itm.Lt at this
    show k ≤ x.key
    dsimp only at this
    omega
end Go.Proofs.Ytiipgdmcgmbbkaa
