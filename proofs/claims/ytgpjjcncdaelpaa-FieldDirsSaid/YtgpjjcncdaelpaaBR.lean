/-
  Buildings, continued: where an ID stands, one more, one less, what they cover. The conditions stand in each lemma.
-/
import Derived.Test.YtgpjjcncdaelpaaBQ
set_option linter.unusedVariables false
set_option linter.unusedSimpArgs false
namespace Go.Proofs.Ytgpjjcncdaelpaa
open Go.Vg
theorem Ris.lt {l : List Bld} (h : Ris l) {i j : Int} (h0 : 0 ≤ i) (h1 : i < j) (h2 : j < l.length) : (gi l i).id < (gi l j).id := by
  obtain ⟨n, hn⟩ : ∃ n : Nat, j = i + 1 + n := ⟨(j - i - 1).toNat, by omega⟩
  induction n generalizing j with
  | zero =>
    have := h j (by omega) h2
    rw [show j - 1 = i by omega] at this
    exact this
  | succ n ih =>
    have h3 := ih (j := j - 1) (by omega) (by omega) (by omega)
    have h4 := h j (by omega) h2
    omega
/-- So many IDs are less. -/
def Cut (l : List Bld) (id i : Int) : Prop := (0 ≤ i ∧ i ≤ l.length) ∧ (∀ j : Int, 0 ≤ j → j < i → (gi l j).id < id) ∧ ∀ j : Int, i ≤ j → j < l.length → id ≤ (gi l j).id
theorem Cut.uniq {l : List Bld} {id i k : Int} (h : Cut l id i) (h' : Cut l id k) : i = k := by
  obtain ⟨⟨a0, a1⟩, a2, a3⟩ := h
  obtain ⟨⟨b0, b1⟩, b2, b3⟩ := h'
  apply Classical.byContradiction; intro hne
  by_cases hlt : i < k
  · have := b2 i a0 hlt
    have := a3 i (Int.le_refl _) (by omega)
    omega
  · have := a2 k b0 (by omega)
    have := b3 k (Int.le_refl _) (by omega)
    omega
theorem find_p (b : Bld) (id : Int) : build_find_1 b id = some (if b.id < id then -1 else if id < b.id then 1 else 0) := by
  unfold build_find_1 cmp_Compare cmp_isNaN
  simp only [bsome, not_true_eq_false, decide_false, Bool.false_eq_true, if_false]
  split
  · rfl
  · split <;> rfl
theorem find_b {l : List Bld} (h : Ris l) (hl : l.length ≤ 4611686018427387903) (id : Int) : Ok (build_find l id) fun r => Cut l id r.1 ∧ (r.2 = true ↔ r.1 < l.length ∧ (gi l r.1).id = id) := by
  unfold build_find
  refine Ok.bind (R := fun r => Cut l id r.1 ∧ (r.2 = true ↔ r.1 < l.length ∧ (gi l r.1).id = id)) ?_ (fun r hr => Ok.ret hr)
  unfold api_Building_int
  refine Ok.bind (R := fun i => Cut l id i) (Ok.loop (fun z : Int × Int => (0 ≤ z.1 ∧ z.1 ≤ z.2 ∧ z.2 ≤ l.length) ∧ (∀ j : Int, 0 ≤ j → j < z.1 → (gi l j).id < id) ∧ ∀ j : Int, z.2 ≤ j → j < l.length → id ≤ (gi l j).id) (fun z => (z.2 - z.1).toNat)
    ⟨by simp, fun j j0 j1 => (by have : j < 0 := j1; omega), fun j j0 j1 => (by have : (l.length : Int) ≤ j := j0; omega)⟩ (by unfold FUEL; simp; omega) ?_) ?_
  · rintro ⟨a, b⟩ ⟨⟨h0, h1, h2⟩, h3, h4⟩
    dsimp only at h0 h1 h2 h3 h4 ⊢
    refine Ok.ite (fun hlt => ?_) (fun hlt => Ok.ret ?_)
    · have e : (a + b) % 18446744073709551616 = a + b := Int.emod_eq_of_lt (by omega) (by omega)
      rw [e]
      refine Ok.gd (by unfold I64; omega) (Ok.gd (by omega) (Ok.gd (by unfold I64; omega) (Ok.gd (by omega) ?_)))
      rw [find_p, bsome]
      obtain ⟨m, hm⟩ : ∃ m, m = (a + b) / 2 := ⟨_, rfl⟩
      rw [← hm]
      by_cases hc : (gi l m).id < id
      · rw [if_pos hc, if_pos (by omega)]
        refine Ok.gd (by unfold I64; omega) (Ok.ret ⟨⟨by show 0 ≤ m + 1 ∧ m + 1 ≤ b ∧ b ≤ _; omega, fun j j0 j1 => ?_, h4⟩, by show (b - (m + 1)).toNat < (b - a).toNat; omega⟩)
        by_cases hj : j = m
        · subst hj; exact hc
        · have := h.lt j0 (show j < m by have : j < m + 1 := j1; omega) (by omega)
          omega
      · rw [if_neg hc]
        refine Ok.ite (fun hx => absurd hx (by split <;> omega)) (fun _ => Ok.ret ⟨⟨by show 0 ≤ a ∧ a ≤ m ∧ m ≤ _; omega, h3, fun j j0 j1 => ?_⟩, by show (m - a).toNat < (b - a).toNat; omega⟩)
        by_cases hj : j = m
        · subst hj; omega
        · have := h.lt (show 0 ≤ m by omega) (show m < j by have : m ≤ j := j0; omega) j1
          omega
    · have : a = b := by omega
      subst this
      exact ⟨⟨h0, h2⟩, h3, h4⟩
  · intro i hi
    refine Ok.bind (R := fun r => (r = true ↔ i < l.length ∧ (gi l i).id = id)) (Ok.ite (fun hlt => Ok.gd ⟨hi.1.1, hlt⟩ ?_) (fun hlt => Ok.ret ⟨fun e => (by cases e), fun e => absurd e.1 hlt⟩)) (fun r hr => Ok.ret ⟨hi, hr⟩)
    show Ok (Option.bind (build_find_1 (gi l i) id) _) _
    rw [find_p, bsome]
    refine Ok.ret ?_
    rw [decide_eq_true_iff]
    constructor
    · intro e
      split at e
      · omega
      · split at e
        · omega
        · exact ⟨hlt, by omega⟩
    · rintro ⟨_, e⟩
      rw [if_neg (by omega), if_neg (by omega)]
/-- What one more makes of buildings. -/
def AddR (g : Grd) (l : List Bld) (b : Bld) (r : List Bld × Int) : Prop :=
  (¬ SOk b ∧ r = ([], 1)) ∨ (SOk b ∧ ¬ NOk g b ∧ r = ([], 3)) ∨ (SOk b ∧ NOk g b ∧ (∃ i : Int, 0 ≤ i ∧ i < l.length ∧ ((gi l i).id = b.id ∨ Meet (gi l i) b)) ∧ r = ([], 12)) ∨
  (SOk b ∧ NOk g b ∧ (¬ ∃ i : Int, 0 ≤ i ∧ i < l.length ∧ ((gi l i).id = b.id ∨ Meet (gi l i) b)) ∧ ((¬ Fm g b ∧ r = ([], 5)) ∨ (Fm g b ∧ 256 ≤ (l.length : Int) ∧ r = ([], 4)) ∨ (Fm g b ∧ (l.length : Int) < 256 ∧ ∃ i, Cut l b.id i ∧ r = (l.take i.toNat ++ [b] ++ l.drop i.toNat, 0))))
theorem AddR.uniq {g : Grd} {l : List Bld} {b : Bld} {r s : List Bld × Int} (h : AddR g l b r) (k : AddR g l b s) : r = s := by
  rcases h with ⟨a1, rfl⟩ | ⟨a1, a2, rfl⟩ | ⟨a1, a2, a3, rfl⟩ | ⟨a1, a2, a3, h⟩ <;> rcases k with ⟨b1, rfl⟩ | ⟨b1, b2, rfl⟩ | ⟨b1, b2, b3, rfl⟩ | ⟨b1, b2, b3, k⟩ <;> first | rfl | (exfalso; first | exact a1 b1 | exact b1 a1 | exact a2 b2 | exact b2 a2 | exact a3 b3 | exact b3 a3) | skip
  rcases h with ⟨a4, rfl⟩ | ⟨a4, a5, rfl⟩ | ⟨a4, a5, i, a6, rfl⟩ <;> rcases k with ⟨b4, rfl⟩ | ⟨b4, b5, rfl⟩ | ⟨b4, b5, j, b6, rfl⟩ <;> first | rfl | (exfalso; first | exact a4 b4 | exact b4 a4 | omega) | skip
  rw [a6.uniq b6]
theorem put_b {g : Grd} {l : List Bld} {b : Bld} (hg : GOk g) (hm : MOk g l) : Ok (build_Put g l b) (AddR g l b) := by
  have hlen := hm.len
  unfold build_Put
  refine Ok.bind (find_b hm.ris (by omega) b.id) ?_
  rintro ⟨i, th⟩ ⟨hc, ht⟩
  dsimp only at hc ht ⊢
  by_cases hs : SOk b
  · rw [(form_b _).t hs, bsome, if_neg (by simp)]
    by_cases hn : NOk g b
    · rw [(on_b hg hs).t hn, bsome, if_neg (by simp)]
      have hcon := containsFB_b (l := l) (f := fun y0 => build_Put_1 y0 b) (P := fun x => Meet x b) (by omega) (fun t htm => by
        obtain ⟨j, j0, j1, rfl⟩ := gi_mem2.1 htm
        have := hm.each j j0 j1
        unfold build_Put_1
        obtain ⟨r, hr, hp⟩ := overlap_b (Sm.of hg this.1 this.2.1) (Sm.of hg hs hn)
        rw [hr, bsome]; exact Ok.ret hp)
      by_cases hx : ∃ j : Int, 0 ≤ j ∧ j < l.length ∧ ((gi l j).id = b.id ∨ Meet (gi l j) b)
      · refine Ok.bindE (x := true) ?_ ?_
        · by_cases hth : th = true
          · rw [if_pos hth]
          · rw [if_neg hth, hcon.t ?_, bsome]
            obtain ⟨j, j0, j1, hj | hj⟩ := hx
            · exfalso
              have h1 : ¬ j < i := fun h => by have := hc.2.1 j j0 h; omega
              have h2 : i < l.length := by omega
              have h3 : ¬ (gi l i).id = b.id := fun h => hth (ht.2 ⟨h2, h⟩)
              have h4 := hc.2.2 i (Int.le_refl _) h2
              have h5 : ¬ i = j := fun h => h3 (h ▸ hj)
              have := hm.ris.lt hc.1.1 (show i < j by omega) j1
              omega
            · exact ⟨j, j0, j1, hj⟩
        · rw [if_pos rfl]
          exact Ok.ret (.inr (.inr (.inl ⟨hs, hn, hx, rfl⟩)))
      · refine Ok.bindE (x := false) ?_ ?_
        · have hth : ¬ th = true := fun h => by
            obtain ⟨h1, h2⟩ := ht.1 h
            exact hx ⟨i, hc.1.1, h1, .inl h2⟩
          rw [if_neg hth, hcon.f (fun ⟨j, j0, j1, hj⟩ => hx ⟨j, j0, j1, .inr hj⟩), bsome]
        · rw [if_neg (by simp)]
          by_cases hf : Fm g b
          · rw [(firm_b hg hs hn).t hf, bsome, if_neg (by simp)]
            refine Ok.ite (fun h => Ok.ret (.inr (.inr (.inr ⟨hs, hn, hx, .inr (.inl ⟨hf, by omega, rfl⟩)⟩)))) (fun h => ?_)
            have e1 : slices_Clone_Bld l = some l := by unfold slices_Clone_Bld; rw [if_pos (by omega)]
            have e2 : slices_Insert l i [b] = some (l.take i.toNat ++ [b] ++ l.drop i.toNat) := by
              unfold slices_Insert; rw [if_pos ⟨rfl, hc.1, by omega⟩]
            rw [e1, bsome, e2, bsome, bsome]
            exact Ok.ret (.inr (.inr (.inr ⟨hs, hn, hx, .inr (.inr ⟨hf, by omega, i, hc, rfl⟩)⟩)))
          · rw [(firm_b hg hs hn).f hf, bsome, if_pos (by rfl)]
            exact Ok.ret (.inr (.inr (.inr ⟨hs, hn, hx, .inl ⟨hf, rfl⟩⟩)))
    · rw [(on_b hg hs).f hn, bsome, if_pos (by rfl)]
      exact Ok.ret (.inr (.inl ⟨hs, hn, rfl⟩))
  · rw [(form_b _).f hs, bsome, if_pos (by rfl)]
    exact Ok.ret (.inl ⟨hs, rfl⟩)
theorem add_b {g : Grd} {l : List Bld} {b : Bld} (hg : g.tiles.length ≤ 9223372036854775806) (hl : l.length ≤ 9223372036854775806) : Ok (build_Add g l b) fun r => ((GOk g ∧ MOk g l) ∧ AddR g l b r) ∨ (¬ (GOk g ∧ MOk g l) ∧ r = ([], 1)) := by
  unfold build_Add
  by_cases h1 : GOk g
  · rw [(may_g hg).t h1, bsome]
    by_cases h2 : MOk g l
    · refine Ok.bindE (x := false) (by rw [if_neg (by simp), (may_b h1 hl).t h2]; rfl) ?_
      rw [if_neg (by simp)]
      exact Ok.bind (put_b h1 h2) fun r hr => Ok.ret (.inl ⟨⟨h1, h2⟩, hr⟩)
    · refine Ok.bindE (x := true) (by rw [if_neg (by simp), (may_b h1 hl).f h2]; rfl) ?_
      rw [if_pos rfl]
      exact Ok.ret (.inr ⟨fun h => h2 h.2, rfl⟩)
  · rw [(may_g hg).f h1, bsome]
    refine Ok.bindE (x := true) (by rw [if_pos (by rfl)]) ?_
    rw [if_pos rfl]
    exact Ok.ret (.inr ⟨fun h => h1 h.1, rfl⟩)
theorem copyBl_p {a : List Bld} (h : a.length < 1099511627776) : throngref0_CopyBuildings a = some a := copyF_eq h
theorem eqBl_p {a b : List Bld} (h : a.length ≤ 9223372036854775807) : throngref0_EqBuildings a b = some (decide (a = b)) := eqF_eq h
theorem eqB_p {a b : List Bool} (h : a.length ≤ 9223372036854775807) : throngref0_EqBools a b = some (decide (a = b)) := eqF_eq h
theorem addR_b {g : Grd} {l : List Bld} {b : Bld} (hg : GOk g) (hm : MOk g l) : Ok (throngref8_Add g l b) (AddR g l b) := by
  have hlen := hm.len
  unfold throngref8_Add
  by_cases hs : SOk b
  · rw [(sides_b _).t hs, bsome, if_neg (by simp)]
    by_cases hn : NOk g b
    · rw [(onR_b hg hs).t hn, bsome, if_neg (by simp)]
      refine Ok.bind (scanOk (a := 0) (n := l.length) (fun j => ¬ ((gi l j).id = b.id ∨ Meet (gi l j) b)) (fun r : List Bld × Int => r = ([], 12) ∧ ∃ j : Int, 0 ≤ j ∧ j < l.length ∧ ((gi l j).id = b.id ∨ Meet (gi l j) b)) (by omega) (fun v v0 v1 _ => ?_) (fun v _ hv => by rw [if_neg (by omega)])) (fun x hx => ?_)
      · rw [if_pos v1, if_pos ⟨v0, v1⟩]
        have hv := hm.each v v0 v1
        by_cases h1 : (gi l v).id = b.id
        · refine Ok.bindE (x := true) (by rw [if_pos h1]) ?_
          rw [if_pos rfl]
          exact Ok.ret ⟨rfl, v, v0, v1, .inl h1⟩
        · by_cases h2 : Meet (gi l v) b
          · refine Ok.bindE (x := true) (by rw [if_neg h1, if_pos ⟨v0, v1⟩, (meet_b (Sm.of hg hv.1 hv.2.1) (Sm.of hg hs hn)).t h2]; rfl) ?_
            rw [if_pos rfl]
            exact Ok.ret ⟨rfl, v, v0, v1, .inr h2⟩
          · refine Ok.bindE (x := false) (by rw [if_neg h1, if_pos ⟨v0, v1⟩, (meet_b (Sm.of hg hv.1 hv.2.1) (Sm.of hg hs hn)).f h2]; rfl) ?_
            rw [if_neg (by simp)]
            exact Ok.gd (by unfold I64; omega) (Ok.ret ⟨rfl, fun h => h.elim h1 h2⟩)
      · cases x with
        | up r => exact Ok.ret (.inr (.inr (.inl ⟨hs, hn, hx.2, hx.1⟩)))
        | go _ =>
          have hx' : ¬ ∃ j : Int, 0 ≤ j ∧ j < l.length ∧ ((gi l j).id = b.id ∨ Meet (gi l j) b) := fun ⟨j, j0, j1, hj⟩ => hx j j0 j1 hj
          simp only [Ex.then]
          by_cases hf : Fm g b
          · rw [(firmR_b hg hs hn).t hf, bsome, if_neg (by simp)]
            refine Ok.ite (fun h => Ok.ret (.inr (.inr (.inr ⟨hs, hn, hx', .inr (.inl ⟨hf, h, rfl⟩)⟩)))) (fun h => ?_)
            refine Ok.bind (R := fun i => Cut l b.id i) (Ok.loop (fun v => (0 ≤ v ∧ v ≤ l.length) ∧ ∀ j : Int, 0 ≤ j → j < v → (gi l j).id < b.id) (fun v => (l.length - v).toNat) ⟨by omega, fun j j0 j1 => by omega⟩ (by unfold FUEL; omega) ?_) (fun i hi => ?_)
            · rintro v ⟨⟨v0, v1⟩, hv⟩
              refine Ok.gd (fun h => ⟨v0, h⟩) (Ok.ite (fun h => Ok.gd (by unfold I64; omega) (Ok.ret ⟨⟨by omega, fun j j0 j1 => ?_⟩, by omega⟩)) (fun h => Ok.ret ⟨⟨v0, v1⟩, hv, fun j j0 j1 => ?_⟩))
              · by_cases hj : j = v
                · subst hj; exact h.2
                · exact hv j j0 (by omega)
              · have hv1 : v < l.length := by omega
                have h2 : ¬ (gi l v).id < b.id := fun hh => h ⟨hv1, hh⟩
                by_cases hj : v = j
                · subst hj; omega
                · have := hm.ris.lt v0 (show v < j by omega) j1
                  omega
            · have hi1 := hi.1
              refine Ok.bindE (x := l.take i.toNat ++ [b]) (by rw [if_pos hi1, copyBl_p (by rw [List.length_take]; omega), bsome, if_pos (by rw [List.length_take]; omega)]) (Ok.gd hi1 (Ok.gd (by simp; omega) (Ok.ret (.inr (.inr (.inr ⟨hs, hn, hx', .inr (.inr ⟨hf, by omega, i, hi, rfl⟩)⟩))))))
          · rw [(firmR_b hg hs hn).f hf, bsome, if_pos (by rfl)]
            exact Ok.ret (.inr (.inr (.inr ⟨hs, hn, hx', .inl ⟨hf, rfl⟩⟩)))
    · rw [(onR_b hg hs).f hn, bsome, if_pos (by rfl)]
      exact Ok.ret (.inr (.inl ⟨hs, hn, rfl⟩))
  · rw [(sides_b _).f hs, bsome, if_pos (by rfl)]
    exact Ok.ret (.inl ⟨hs, rfl⟩)
/-- What stands there without one. -/
def DropR (l : List Bld) (id : Int) (r : List Bld × Int) : Prop :=
  (r = ([], 3) ∧ ∀ i : Int, 0 ≤ i → i < l.length → ¬ (gi l i).id = id) ∨ ∃ i : Int, (0 ≤ i ∧ i < l.length) ∧ (gi l i).id = id ∧ r = (l.take i.toNat ++ l.drop (i.toNat + 1), 0)
theorem DropR.uniq {l : List Bld} (h : Ris l) {id : Int} {r s : List Bld × Int} (a : DropR l id r) (b : DropR l id s) : r = s := by
  rcases a with ⟨rfl, a⟩ | ⟨i, a1, a2, rfl⟩ <;> rcases b with ⟨rfl, b⟩ | ⟨j, b1, b2, rfl⟩
  · rfl
  · exact absurd b2 (a j b1.1 b1.2)
  · exact absurd a2 (b i a1.1 a1.2)
  · have : i = j := by
      apply Classical.byContradiction; intro hne
      by_cases hlt : i < j
      · have := h.lt a1.1 hlt b1.2; omega
      · have := h.lt b1.1 (show j < i by omega) a1.2; omega
    rw [this]
theorem drop_b {l : List Bld} (hl : l.length ≤ 1000000) (id : Int) : Ok (build_Drop l id) fun r => (Ris l ∧ DropR l id r) ∨ (¬ Ris l ∧ r = ([], 1)) := by
  unfold build_Drop
  by_cases h : Ris l
  · rw [(rising_b (by omega)).t h, bsome, if_neg (by simp)]
    refine Ok.bind (find_b h (by omega) id) ?_
    rintro ⟨i, th⟩ ⟨hc, ht⟩
    dsimp only at hc ht ⊢
    have hc1 := hc.1
    by_cases hth : th = true
    · obtain ⟨h1, h2⟩ := ht.1 hth
      rw [hth, if_neg (by simp)]
      have e1 : slices_Clone_Bld l = some l := by unfold slices_Clone_Bld; rw [if_pos (by omega)]
      have e2 : slices_Delete l i (i + 1) = some (l.take i.toNat ++ l.drop (i.toNat + 1)) := by
        unfold slices_Delete; rw [if_pos (by omega), show (i + 1).toNat = i.toNat + 1 by omega]
      rw [e1, bsome]
      refine Ok.gd (by unfold I64; omega) ?_
      rw [e2, bsome]
      exact Ok.ret (.inl ⟨h, .inr ⟨i, ⟨hc1.1, h1⟩, h2, rfl⟩⟩)
    · have hf : th = false := by cases th <;> simp_all
      rw [hf, if_pos (by rfl)]
      refine Ok.ret (.inl ⟨h, .inl ⟨rfl, fun j j0 j1 e => ?_⟩⟩)
      have h1 : ¬ j < i := fun hh => by have := hc.2.1 j j0 hh; omega
      have h3 : ¬ (gi l i).id = id := fun hh => hth (ht.2 ⟨by omega, hh⟩)
      have h4 := hc.2.2 i (Int.le_refl _) (by omega)
      have h5 : ¬ i = j := fun hh => h3 (hh ▸ e)
      have := h.lt hc1.1 (show i < j by omega) j1
      omega
  · rw [(rising_b (by omega)).f h, bsome, if_pos (by rfl)]
    exact Ok.ret (.inr ⟨h, rfl⟩)
theorem dropR_b {l : List Bld} (hl : l.length ≤ 1000000) (id : Int) : Ok (throngref8_Drop l id) fun r => DropR l id (r.1, if r.2 = true then 0 else 3) := by
  unfold throngref8_Drop
  refine Ok.bind (scanOk (a := 0) (n := l.length) (fun j => ¬ (gi l j).id = id) (fun r : List Bld × Bool => DropR l id (r.1, if r.2 = true then 0 else 3)) (by omega) (fun v v0 v1 _ => ?_) (fun v _ hv => by rw [if_neg (by omega)])) (fun x hx => ?_)
  · rw [if_pos v1, if_pos ⟨v0, v1⟩]
    refine Ok.ite (fun h => ?_) (fun h => Ok.gd (by unfold I64; omega) (Ok.ret ⟨rfl, h⟩))
    rw [if_pos (by omega), copyBl_p (by rw [List.length_take]; omega), bsome, show (v + 1).toNat = v.toNat + 1 by omega]
    exact Ok.gd (by unfold I64; omega) (Ok.gd (by omega) (Ok.gd (by simp; omega) (Ok.ret (.inr ⟨v, ⟨v0, v1⟩, h, rfl⟩))))
  · cases x with
    | go _ => exact Ok.ret (.inl ⟨rfl, hx⟩)
    | up r => exact Ok.ret hx
end Go.Proofs.Ytgpjjcncdaelpaa
