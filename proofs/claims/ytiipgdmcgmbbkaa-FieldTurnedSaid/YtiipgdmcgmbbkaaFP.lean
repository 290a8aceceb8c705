
/-
  Costs, tiles beside, room: what the pure functions of the fields answer, the program's and the page's. The conditions stand in each lemma. No program in sight but those functions.
-/
import Derived.Test.YtiipgdmcgmbbkaaFG
import Derived.Test.YtiipgdmcgmbbkaaBT
set_option linter.unusedVariables false
set_option linter.unusedSimpArgs false
namespace Go.Proofs.Ytiipgdmcgmbbkaa
open Go.Vg
theorem loopG {σ β γ : Type} {f : σ → Option (St σ β)} {s0 : σ} {Q : β → Prop} (I : γ → σ → Prop) (m : γ → Nat) (g0 : γ) (h0 : I g0 s0) (hm : m g0 < FUEL)
    (step : ∀ g s, I g s → Ok (f s) fun y => match y with | .next s' => ∃ g', I g' s' ∧ m g' < m g | .done b => Q b) : Ok (loop f s0) Q := by
  have key : ∀ n g s, I g s → m g < n → Ok (loopN n f s) Q := by
    intro n
    induction n with
    | zero => intro g s _ h; omega
    | succ n ih =>
      intro g s hi hlt
      obtain ⟨y, hy, hq⟩ := step g s hi
      unfold loopN
      rw [hy]
      cases y with
      | next s' =>
        obtain ⟨g', h1, h2⟩ := hq
        exact ih g' s' h1 (by omega)
      | done b => exact ⟨b, rfl, hq⟩
  exact key FUEL g0 s0 h0 hm
def pr (c t : Int) : Int := gi [2, 1, 3, 5, 0, 0, 2, 1, 6, 0, 0, 0, 2, 1, 0, 3, 2, 0] (c * 6 + t)
theorem price_p {c t : Int} (hc : 0 ≤ c ∧ c ≤ 2) (ht : 0 ≤ t ∧ t ≤ 5) : kind_Price c t = some (pr c t) := by
  obtain ⟨a, ha⟩ : ∃ a : Fin 3, ((a.val : Nat) : Int) = c := ⟨⟨c.toNat, by omega⟩, by simp; omega⟩
  obtain ⟨b, hb⟩ : ∃ b : Fin 6, ((b.val : Nat) : Int) = t := ⟨⟨t.toNat, by omega⟩, by simp; omega⟩
  subst ha; subst hb
  revert a b
  decide +kernel
theorem pr_bd {c t : Int} (hc : 0 ≤ c ∧ c ≤ 2) (ht : 0 ≤ t ∧ t ≤ 5) : 0 ≤ pr c t ∧ pr c t ≤ 6 := by
  obtain ⟨a, ha⟩ : ∃ a : Fin 3, ((a.val : Nat) : Int) = c := ⟨⟨c.toNat, by omega⟩, by simp; omega⟩
  obtain ⟨b, hb⟩ : ∃ b : Fin 6, ((b.val : Nat) : Int) = t := ⟨⟨t.toNat, by omega⟩, by simp; omega⟩
  subst ha; subst hb
  revert a b
  decide +kernel
/-- Is there such a place? -/
def On (g : Grd) (x y : Int) : Prop := (0 ≤ x ∧ x < g.w) ∧ (0 ≤ y ∧ y < g.h)
instance (g : Grd) (x y : Int) : Decidable (On g x y) := by unfold On; exact inferInstance
theorem on_p (g : Grd) (x y : Int) : ground_On g x y = some (decide (On g x y)) := by
  unfold ground_On
  congr 1
  rw [decide_eq_decide]
  unfold On; omega
theorem On.bd {g : Grd} {x y : Int} (hg : GOk g) (h : On g x y) : (0 ≤ x + g.w * y ∧ x + g.w * y < g.w * g.h) ∧ (0 ≤ g.w * y ∧ g.w * y ≤ 16384) := by
  unfold On at h
  have h1 := hg.1
  have ha := hg.area
  have := Int.mul_nonneg (show 0 ≤ g.w by omega) (show 0 ≤ y by omega)
  have := Int.mul_le_mul_of_nonneg_left (show y ≤ g.h - 1 by omega) (show 0 ≤ g.w by omega)
  rw [Int.mul_sub] at this
  omega
theorem On.of {g : Grd} {t : Int} (hg : GOk g) (ht : 0 ≤ t ∧ t < g.w * g.h) : On g (t % g.w) (t / g.w) ∧ t % g.w + g.w * (t / g.w) = t := by
  have h1 := hg.1
  have hd := Int.emod_add_mul_ediv t g.w
  have h2 := Int.emod_nonneg t (show g.w ≠ 0 by omega)
  have h3 := Int.emod_lt_of_pos t (show 0 < g.w by omega)
  have h4 : 0 ≤ t / g.w := Int.ediv_nonneg ht.1 (by omega)
  have h5 : t / g.w < g.h := Int.ediv_lt_of_lt_mul (by omega) (by rw [Int.mul_comm]; exact ht.2)
  exact ⟨⟨⟨h2, h3⟩, h4, h5⟩, hd⟩
theorem On.xy {g : Grd} {x y : Int} (h : On g x y) : (x + g.w * y) / g.w = y ∧ (x + g.w * y) % g.w = x := xy_inj h.1
/-- The eight ways. -/
def DX (i : Int) : Int := gi [0, 1, 0, -1, 1, 1, -1, -1] i
def DY (i : Int) : Int := gi [-1, 0, 1, 0, -1, 1, 1, -1] i
theorem dd_bd {i : Int} (h : 0 ≤ i ∧ i < 8) : (-1 ≤ DX i ∧ DX i ≤ 1) ∧ (-1 ≤ DY i ∧ DY i ≤ 1) ∧ ¬ (DX i = 0 ∧ DY i = 0) := by
  obtain ⟨a, ha⟩ : ∃ a : Fin 8, ((a.val : Nat) : Int) = i := ⟨⟨i.toNat, by omega⟩, by simp; omega⟩
  subst ha
  revert a
  decide +kernel
theorem dd_of {dx dy : Int} (h1 : -1 ≤ dx ∧ dx ≤ 1) (h2 : -1 ≤ dy ∧ dy ≤ 1) (h : ¬ (dx = 0 ∧ dy = 0)) : ∃ i, (0 ≤ i ∧ i < 8) ∧ DX i = dx ∧ DY i = dy := by
  have hx : dx = -1 ∨ dx = 0 ∨ dx = 1 := by omega
  have hy : dy = -1 ∨ dy = 0 ∨ dy = 1 := by omega
  rcases hx with rfl | rfl | rfl <;> rcases hy with rfl | rfl | rfl
  · exact ⟨7, by omega, rfl, rfl⟩
  · exact ⟨3, by omega, rfl, rfl⟩
  · exact ⟨6, by omega, rfl, rfl⟩
  · exact ⟨0, by omega, rfl, rfl⟩
  · exact absurd ⟨rfl, rfl⟩ h
  · exact ⟨2, by omega, rfl, rfl⟩
  · exact ⟨4, by omega, rfl, rfl⟩
  · exact ⟨1, by omega, rfl, rfl⟩
  · exact ⟨5, by omega, rfl, rfl⟩
/-- The tile one comes to by a way; -1: there is none. -/
def nb (g : Grd) (t i : Int) : Int := if On g (t % g.w + DX i) (t / g.w + DY i) then t % g.w + DX i + g.w * (t / g.w + DY i) else -1
def Nbs (g : Grd) (t : Int) (l : List Int) : Prop := l.length = 8 ∧ ∀ i : Int, 0 ≤ i → i < 8 → gi l i = nb g t i
theorem Nbs.uniq {g : Grd} {t : Int} {l m : List Int} (h : Nbs g t l) (k : Nbs g t m) : l = m :=
  ext_gi (h.1.trans k.1.symm) fun i i0 i1 => by rw [h.2 i i0 (by have := h.1; omega), k.2 i i0 (by have := h.1; omega)]
theorem ways_p : ground_Ways = some [0, -1, 1, 0, 0, 1, -1, 0, 1, -1, 1, 1, -1, 1, -1, -1] := by decide +kernel
theorem ways_gi {i : Int} (h : 0 ≤ i ∧ i < 8) : gi [0, -1, 1, 0, 0, 1, -1, 0, 1, -1, 1, 1, -1, 1, -1, -1] (2 * i) = DX i ∧ gi [0, -1, 1, 0, 0, 1, -1, 0, 1, -1, 1, 1, -1, 1, -1, -1] (2 * i + 1) = DY i := by
  obtain ⟨a, ha⟩ : ∃ a : Fin 8, ((a.val : Nat) : Int) = i := ⟨⟨i.toNat, by omega⟩, by simp; omega⟩
  subst ha
  revert a
  decide +kernel
theorem beside_b {g : Grd} {t : Int} (hg : GOk g) (ht : 0 ≤ t ∧ t < g.w * g.h) : Ok (ground_Beside g t) (Nbs g t) := by
  have ha := hg.area
  have h1 := hg.1
  have h2 := hg.2.1
  have ho := (On.of hg ht).1
  have ho' := ho
  obtain ⟨o1, o2⟩ := ho'
  unfold ground_Beside
  rw [if_pos (by omega), if_pos (by omega), ways_p, bsome]
  refine Ok.bind (R := Nbs g t) (Ok.loop (fun z : Int × List Int => (0 ≤ z.1 ∧ z.1 ≤ 8) ∧ z.2.length = 8 ∧ ∀ i : Int, 0 ≤ i → i < z.1 → gi z.2 i = nb g t i) (fun z => (8 - z.1).toNat) ⟨by simp, by simp, fun i i0 i1 => (by have : i < 0 := i1; omega)⟩ (by unfold FUEL; simp) ?_) (fun x hx => ?_)
  · rintro ⟨v, l⟩ ⟨⟨v0, v1⟩, hl, hq⟩
    dsimp only at v0 v1 hl hq ⊢
    refine Ok.ite (fun hlt => ?_) (fun hlt => Ok.ret ⟨hl, fun i i0 i1 => hq i i0 (by omega)⟩)
    have hd := dd_bd ⟨v0, hlt⟩
    have hw := ways_gi ⟨v0, hlt⟩
    rw [hw.1, hw.2]
    have step : ∀ m : List Int, m.length = 8 → gi m v = nb g t v → (∀ i : Int, 0 ≤ i → i < 8 → i ≠ v → gi m i = gi l i) → ((0 ≤ v + 1 ∧ v + 1 ≤ 8) ∧ m.length = 8 ∧ ∀ i : Int, 0 ≤ i → i < v + 1 → gi m i = nb g t i) ∧ (8 - (v + 1)).toNat < (8 - v).toNat := fun m hm h1 h2 => by
      refine ⟨⟨by omega, hm, fun i i0 i1 => ?_⟩, by omega⟩
      by_cases hi : i = v
      · subst hi; exact h1
      · rw [h2 i i0 (by omega) hi]; exact hq i i0 (by omega)
    refine Ok.gd ⟨v0, hlt, rfl⟩ (Ok.gd ⟨v0, hlt, hl⟩ (Ok.gd (by unfold I64; omega) (Ok.gd (by unfold I64; omega) ?_)))
    rw [on_p, bsome]
    by_cases hon : On g (t % g.w + DX v) (t / g.w + DY v)
    · have hb := hon.bd hg
      rw [decide_eq_true hon, if_pos rfl]
      refine Ok.gd (by unfold I64; omega) (Ok.gd (by unfold I64; omega) (Ok.gd (by unfold I64; omega) (Ok.gd (by unfold I64; omega) (Ok.gd ⟨v0, hlt, by rw [len_si]; exact hl⟩ (Ok.gd (by unfold I64; omega) (Ok.ret (step _ (by rw [len_si, len_si]; exact hl) ?_ (fun i i0 i1 hne => ?_))))))))
      · rw [gi_si_self ⟨v0, by rw [len_si]; omega⟩]; unfold nb; rw [if_pos hon]
      · rw [gi_si_ne v0 i0 (Ne.symm hne), gi_si_ne v0 i0 (Ne.symm hne)]
    · rw [decide_eq_false hon, if_neg (by simp)]
      refine Ok.gd (by unfold I64; omega) (Ok.ret (step _ (by rw [len_si]; exact hl) ?_ (fun i i0 i1 hne => ?_)))
      · rw [gi_si_self ⟨v0, by omega⟩]; unfold nb; rw [if_neg hon]
      · rw [gi_si_ne v0 i0 (Ne.symm hne)]
  · have hl := hx.1
    rw [if_pos hl, if_pos ⟨hl, hl⟩, if_pos hl]
    exact Ok.ret hx
/-- A value of a table by place; 0 where there is none. -/
def KP (g : Grd) (k : List Int) (x y : Int) : Int := if On g x y then gi k (x + g.w * y) else 0
theorem KP.on {g : Grd} {k : List Int} {x y : Int} (h : On g x y) : KP g k x y = gi k (x + g.w * y) := by unfold KP; rw [if_pos h]
theorem KP.off {g : Grd} {k : List Int} {x y : Int} (h : ¬ On g x y) : KP g k x y = 0 := by unfold KP; rw [if_neg h]
/-- What one pass does with one tile. -/
structure Pass (g : Grd) (k k' : List Int) (t : Int) (ws : List Pr2) (n : Int) : Prop where
  len : k'.length = k.length
  rest : ∀ j : Int, 0 ≤ j → j ≠ t → gi k' j = gi k j
  le : gi k' t ≤ gi k t
  nn : 0 ≤ gi k' t
  way : ∀ i : Int, 0 ≤ i → i < n → gi k' t ≤ KP g k (t % g.w + (gi ws i).a) (t / g.w + (gi ws i).b) + 1
  why : gi k' t = gi k t ∨ ∃ i : Int, (0 ≤ i ∧ i < n) ∧ gi k' t = KP g k (t % g.w + (gi ws i).a) (t / g.w + (gi ws i).b) + 1
theorem pass_b {g : Grd} {k : List Int} {t : Int} {ws : List Pr2} (hg : GOk g) (hk : (k.length : Int) = g.w * g.h) (ht : 0 ≤ t ∧ t < g.w * g.h) (hws : ∀ w ∈ ws, (-1 ≤ w.a ∧ w.a ≤ 1) ∧ (-1 ≤ w.b ∧ w.b ≤ 1) ∧ ¬ (w.a = 0 ∧ w.b = 0)) (hwl : ws.length ≤ 100)
    (hb : ∀ j : Int, 0 ≤ j → j < k.length → 0 ≤ gi k j ∧ gi k j ≤ 128) : Ok (clear_pass g k t ws) fun k' => Pass g k k' t ws ws.length := by
  have ha := hg.area
  have h1 := hg.1
  have h2 := hg.2.1
  obtain ⟨ho, hte⟩ := On.of hg ht
  have ho' := ho
  obtain ⟨o1, o2⟩ := ho'
  unfold clear_pass
  rw [if_pos (by omega), if_pos (by omega)]
  refine Ok.bind (R := fun k' => Pass g k k' t ws ws.length) (Ok.loop (fun z : Int × List Int => (0 ≤ z.1 ∧ z.1 ≤ ws.length) ∧ Pass g k z.2 t ws z.1) (fun z => (ws.length - z.1).toNat)
    ⟨by simp, rfl, fun _ _ _ => rfl, Int.le_refl _, (hb t ht.1 (by omega)).1, fun i i0 i1 => (by have : i < 0 := i1; omega), .inl rfl⟩ (by unfold FUEL; simp; omega) ?_) (fun x hx => Ok.ret hx)
  rintro ⟨v, l⟩ ⟨⟨v0, v1⟩, hp⟩
  dsimp only at v0 v1 hp ⊢
  refine Ok.ite (fun hlt => ?_) (fun hlt => Ok.ret (by have : v = ws.length := by omega
                                                       rw [← this]; exact hp))
  refine Ok.gd ⟨v0, hlt⟩ ?_
  obtain ⟨w, hw⟩ : ∃ w, w = gi ws v := ⟨_, rfl⟩
  have hww := hws w (hw ▸ gi_mem ⟨v0, hlt⟩)
  rw [← hw]
  refine Ok.gd (by unfold I64; omega) (Ok.gd (by unfold I64; omega) ?_)
  rw [on_p, bsome]
  refine Ok.bindE (x := KP g k (t % g.w + w.a) (t / g.w + w.b)) ?_ ?_
  · by_cases hon : On g (t % g.w + w.a) (t / g.w + w.b)
    · have hbd := hon.bd hg
      rw [decide_eq_true hon, if_pos rfl, if_pos (by unfold I64; omega), if_pos (by unfold I64; omega), if_pos (by unfold I64; omega), if_pos (by unfold I64; omega), if_pos (by omega), KP.on hon]
      congr 1
      refine hp.rest _ hbd.1.1 fun e => ?_
      have e1 := hon.xy
      rw [e] at e1
      omega
    · rw [decide_eq_false hon, if_neg (by simp), KP.off hon]
  · obtain ⟨q, hq⟩ : ∃ q, q = KP g k (t % g.w + w.a) (t / g.w + w.b) := ⟨_, rfl⟩
    have hqb : 0 ≤ q ∧ q ≤ 128 := by
      rw [hq]
      by_cases hon : On g (t % g.w + w.a) (t / g.w + w.b)
      · rw [KP.on hon]; have := hon.bd hg; exact hb _ this.1.1 (by omega)
      · rw [KP.off hon]; omega
    rw [← hq]
    have hl := hp.len
    refine Ok.gd (by omega) (Ok.gd (by unfold I64; omega) (Ok.gd (by omega) (Ok.gd (by unfold I64; omega) (Ok.ret ⟨⟨by show 0 ≤ v + 1 ∧ v + 1 ≤ _; omega, ?_⟩, by show ((ws.length : Int) - (v + 1)).toNat < _; omega⟩))))
    have hs : gi (si l t (min (gi l t) (q + 1))) t = min (gi l t) (q + 1) := gi_si_self ⟨ht.1, by omega⟩
    have hle := hp.le
    have hnn := hp.nn
    refine ⟨by show (si l t _).length = _; rw [len_si]; exact hl, fun j j0 hj => ?_, ?_, ?_, fun i i0 i1 => ?_, ?_⟩
    · show gi (si l t _) j = _
      rw [gi_si_ne ht.1 j0 (Ne.symm hj)]; exact hp.rest j j0 hj
    · show gi (si l t _) t ≤ _; rw [hs]; omega
    · show 0 ≤ gi (si l t _) t; rw [hs]; omega
    · show gi (si l t _) t ≤ _
      rw [hs]
      by_cases hi : i = v
      · subst hi; rw [← hw, ← hq]; omega
      · have := hp.way i i0 (by have : i < v + 1 := i1; omega); omega
    · show gi (si l t _) t = _ ∨ ∃ i : Int, (0 ≤ i ∧ i < v + 1) ∧ gi (si l t _) t = _
      rw [hs]
      by_cases hm : gi l t ≤ q + 1
      · rw [Int.min_eq_left hm]
        rcases hp.why with h | ⟨i, hi, h⟩
        · exact .inl h
        · exact .inr ⟨i, by omega, h⟩
      · rw [Int.min_eq_right (by omega)]
        exact .inr ⟨v, by omega, by rw [← hw, ← hq]⟩
end Go.Proofs.Ytiipgdmcgmbbkaa
