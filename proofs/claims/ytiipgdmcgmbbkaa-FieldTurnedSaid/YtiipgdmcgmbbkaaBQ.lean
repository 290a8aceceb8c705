
/-
  Buildings, continued: firm ground, buildings that meet, rising IDs, what may be. The conditions stand in each lemma.
-/
import Derived.Test.YtiipgdmcgmbbkaaBP
set_option linter.unusedVariables false
set_option linter.unusedSimpArgs false
namespace Go.Proofs.Ytiipgdmcgmbbkaa
open Go.Vg
theorem indexF_b {l : List Int} {f : Int → Option Bool} {P : Int → Prop} (hl : l.length ≤ 9223372036854775806) (hf : ∀ t ∈ l, Bo (f t) (P t)) : Ok (slices_IndexFunc l f) fun r => (r = -1 ∧ ∀ i : Int, 0 ≤ i → i < l.length → ¬ P (gi l i)) ∨ (0 ≤ r ∧ r < l.length ∧ P (gi l r)) := by
  unfold slices_IndexFunc
  refine Ok.bind (scanOk (a := 0) (n := l.length) (fun i => ¬ P (gi l i)) (fun r : Int => 0 ≤ r ∧ r < l.length ∧ P (gi l r)) (by omega) (fun v h0 h1 _ => ?_) (fun v _ hv => by rw [if_neg (by omega)])) (fun x hx => ?_)
  · rw [if_pos h1, if_pos ⟨h0, h1⟩]
    obtain ⟨r, hr, hp⟩ := hf _ (gi_mem ⟨h0, h1⟩)
    rw [hr, bsome]
    exact Ok.ite (fun h => Ok.ret ⟨h0, h1, hp.1 h⟩) (fun h => Ok.gd (by unfold I64; omega) (Ok.ret ⟨rfl, fun hh => h (hp.2 hh)⟩))
  · cases x with
    | go _ => exact Ok.ret (.inl ⟨rfl, hx⟩)
    | up r => exact Ok.ret (.inr hx)
theorem containsF_b {l : List Int} {f : Int → Option Bool} {P : Int → Prop} (hl : l.length ≤ 9223372036854775806) (hf : ∀ t ∈ l, Bo (f t) (P t)) : Bo (slices_ContainsFunc l f) (∃ t ∈ l, P t) := by
  unfold slices_ContainsFunc
  refine Ok.bind (indexF_b hl hf) ?_
  rintro r (⟨rfl, h⟩ | ⟨h0, h1, h2⟩)
  · refine Ok.ret ⟨fun e => (by simp at e), fun ⟨t, ht, hp⟩ => ?_⟩
    obtain ⟨i, i0, i1, rfl⟩ := gi_mem2.1 ht
    exact absurd hp (h i i0 i1)
  · exact Ok.ret ⟨fun _ => ⟨_, gi_mem ⟨h0, h1⟩, h2⟩, fun _ => decide_eq_true h0⟩
theorem firm_b {g : Grd} {b : Bld} (hg : GOk g) (hs : SOk b) (hn : NOk g b) : Bo (build_firm g b) (Fm g b) := by
  unfold build_firm
  refine Ok.bind (tiles_b hg hs hn) fun l hl => ?_
  have hlen := hl.len
  have hwh := mul_bd (a := b.w) (b := b.h) (A := 4) (B := 4) (by have := hs.2.2.1; omega) (by have := hs.2.2.2; omega)
  have h3 := hg.2.2.1
  obtain ⟨r, hr, hp⟩ := containsF_b (l := l) (f := fun y => build_firm_1 y g) (P := fun t => 1 < ((gi g.tiles t).toNat : Int)) (by omega) (fun t ht => by
    have hb := In.bd hg hs hn ((hl.mem t).1 ht)
    unfold build_firm_1
    rw [if_pos (by omega)]
    exact Bo.dec Iff.rfl)
  rw [hr, bsome]
  refine Ok.ret ?_
  rw [Bool.not_eq_true', ← Bool.not_eq_true, hp]
  constructor
  · intro h t ht
    have : ¬ 1 < ((gi g.tiles t).toNat : Int) := fun hh => h ⟨t, (hl.mem t).2 ht, hh⟩
    omega
  · rintro h ⟨t, ht, hh⟩
    have := h t ((hl.mem t).1 ht)
    omega
theorem has_b {g : Grd} {b : Bld} (hg : GOk g) (hs : SOk b) (hn : NOk g b) {t : Int} (ht : 0 ≤ t ∧ t < g.w * g.h) : Bo (throngref8_Has g b t) (In g b t) := by
  have ha := hg.area
  have hn' := hn
  have hs' := hs
  obtain ⟨n1, n2, n3, n4⟩ := hn'
  obtain ⟨_, _, s3, s4⟩ := hs'
  obtain ⟨g1, g2, _⟩ := hg
  unfold throngref8_Has
  rw [if_pos (by omega), if_pos (by omega), if_pos (fun _ => by unfold I64; omega), if_pos (fun _ => by unfold I64; omega)]
  exact Bo.dec (by rw [In.iff ⟨g1, g2, ‹_›⟩ hs hn]; omega)
theorem firmR_b {g : Grd} {b : Bld} (hg : GOk g) (hs : SOk b) (hn : NOk g b) : Bo (throngref8_firm g b) (Fm g b) := by
  have ha := hg.area
  have h3 := hg.2.2.1
  unfold throngref8_firm
  refine (scanBo (a := 0) (n := g.w * g.h) (fun t => In g b t → ((gi g.tiles t).toNat : Int) ≤ 1) (by omega) (fun v h0 h1 _ => ?_) (fun v _ hv => by rw [if_pos (by unfold I64; omega), if_neg (by omega)])).iff ⟨fun h t ht => ?_, fun h t _ _ ht => h t ht⟩
  · rw [if_pos (by unfold I64; omega), if_pos h1]
    obtain ⟨r, hr, hp⟩ := has_b hg hs hn ⟨h0, h1⟩
    rw [hr, bsome]
    refine Ok.gd (fun _ => by omega) (Ok.gd (fun _ => by omega) (Ok.ite (fun h => Ok.ret ⟨rfl, fun hh => ?_⟩) (fun h => Ok.gd (by unfold I64; omega) (Ok.ret ⟨rfl, fun hin => ?_⟩))))
    · have := hh (hp.1 h.1.1); omega
    · have : r = true := hp.2 hin
      apply Classical.byContradiction; intro hc
      exact h ⟨⟨this, by omega⟩, by omega⟩
  · have hb := In.bd hg hs hn ht
    exact h t hb.1 hb.2 ht
/-- Where a building lies on a ground, its numbers are small. -/
def Sm (b : Bld) : Prop := (0 ≤ b.x ∧ b.x ≤ 128) ∧ (0 ≤ b.y ∧ b.y ≤ 128) ∧ (1 ≤ b.w ∧ b.w ≤ 4) ∧ (1 ≤ b.h ∧ b.h ≤ 4)
theorem Sm.of {g : Grd} {b : Bld} (hg : GOk g) (hs : SOk b) (hn : NOk g b) : Sm b := by
  obtain ⟨n1, n2, n3, n4⟩ := hn
  obtain ⟨_, _, s3, s4⟩ := hs
  obtain ⟨g1, g2, _⟩ := hg
  unfold Sm; omega
theorem meet_b {a b : Bld} (ha : Sm a) (hb : Sm b) : Bo (throngref8_meet a b) (Meet a b) := by
  unfold Sm at ha hb
  unfold throngref8_meet
  rw [if_pos (by unfold I64; omega), if_pos (fun _ => by unfold I64; omega), if_pos (fun _ => by unfold I64; omega), if_pos (fun _ => by unfold I64; omega)]
  exact Bo.dec (by unfold Meet; omega)
theorem Meet.share {g : Grd} {a b : Bld} (hg : GOk g) (ha : SOk a) (hb : SOk b) (na : NOk g a) (nb : NOk g b) : Meet a b ↔ ∃ t, In g a t ∧ In g b t := by
  constructor
  · rintro ⟨h1, h2, h3, h4⟩
    obtain ⟨_, _, a3, a4⟩ := ha
    obtain ⟨_, _, b3, b4⟩ := hb
    exact ⟨_, ⟨max a.x b.x, max a.y b.y, by omega, by omega, rfl⟩, ⟨max a.x b.x, max a.y b.y, by omega, by omega, rfl⟩⟩
  · rintro ⟨t, h1, h2⟩
    obtain ⟨h1, h3⟩ := (In.iff hg ha na).1 h1
    obtain ⟨h2, h4⟩ := (In.iff hg hb nb).1 h2
    unfold Meet; omega
theorem Meet.symm {a b : Bld} (h : Meet a b) : Meet b a := ⟨h.2.1, h.1, h.2.2.2, h.2.2.1⟩
theorem rising_b {l : List Bld} (hl : l.length ≤ 9223372036854775806) : Bo (build_rising l) (Ris l) := by
  unfold build_rising
  refine scanBo (a := 1) (n := l.length) (fun i => (gi l (i - 1)).id < (gi l i).id) (by omega) (fun v h0 h1 _ => ?_) (fun v _ hv => by rw [if_neg (by omega)])
  rw [if_pos h1]
  exact Ok.gd (by unfold I64; omega) (Ok.gd (by omega) (Ok.gd (by omega) (Ok.ite (fun h => Ok.ret ⟨rfl, by omega⟩) (fun h => Ok.gd (by unfold I64; omega) (Ok.ret ⟨rfl, by omega⟩)))))
theorem ids_b {l : List Bld} (hl : l.length ≤ 9223372036854775806) : Bo (throngref8_IDs l) (Ris l) := by
  unfold throngref8_IDs
  refine scanBo (a := 1) (n := l.length) (fun i => (gi l (i - 1)).id < (gi l i).id) (by omega) (fun v h0 h1 _ => ?_) (fun v _ hv => by rw [if_neg (by omega)])
  rw [if_pos h1]
  exact Ok.gd (by omega) (Ok.gd (by unfold I64; omega) (Ok.gd (by omega) (Ok.ite (fun h => Ok.ret ⟨rfl, by omega⟩) (fun h => Ok.gd (by unfold I64; omega) (Ok.ret ⟨rfl, by omega⟩)))))
theorem mayR_b {g : Grd} {l : List Bld} (hg : g.tiles.length ≤ 9223372036854775806) (hl : l.length ≤ 9223372036854775806) : Bo (throngref8_May g l) (GOk g ∧ MOk g l) := by
  unfold throngref8_May
  by_cases h1 : GOk g
  · rw [(mayR_g hg).t h1, bsome]
    by_cases h2 : (l.length : Int) ≤ 256
    · by_cases h3 : Ris l
      · refine Ok.bindE (x := false) (by rw [if_neg (by simp; omega), (ids_b hl).t h3]; rfl) ?_
        rw [if_neg (by simp)]
        refine (scanBo (a := 0) (n := l.length) (fun i => (SOk (gi l i) ∧ NOk g (gi l i) ∧ Fm g (gi l i)) ∧ ∀ k : Int, 0 ≤ k → k < i → ¬ Meet (gi l i) (gi l k)) (by omega) (fun v v0 v1 hq => ?_) (fun v _ hv => by rw [if_neg (by omega)])).iff
          ⟨fun h => ⟨h1, h2, h3, fun i i0 i1 => (h i i0 i1).1, fun i k k0 k1 i1 => (h i (by omega) i1).2 k k0 k1⟩, fun h i i0 i1 => ⟨h.2.each i i0 i1, fun k k0 k1 => h.2.apart i k k0 k1 i1⟩⟩
        rw [if_pos v1, if_pos ⟨v0, v1⟩]
        by_cases hs : SOk (gi l v)
        · rw [(sides_b _).t hs, bsome]
          by_cases hn : NOk g (gi l v)
          · refine Ok.bindE (x := false) (by rw [if_neg (by simp), if_pos ⟨v0, v1⟩, (onR_b h1 hs).t hn]; rfl) ?_
            by_cases hf : Fm g (gi l v)
            · refine Ok.bindE (x := false) (by rw [if_neg (by simp), if_pos ⟨v0, v1⟩, (firmR_b h1 hs hn).t hf]; rfl) ?_
              rw [if_neg (by simp)]
              refine Ok.bind (scanOk (a := 0) (n := v) (fun k => ¬ Meet (gi l v) (gi l k)) (fun r => r = St.done (Ex.up false) ∧ ¬ ∀ k : Int, 0 ≤ k → k < v → ¬ Meet (gi l v) (gi l k)) (by omega) (fun k k0 k1 _ => ?_) (fun k _ hk => by rw [if_neg (by omega)])) (fun x hx => ?_)
              · rw [if_pos k1, if_pos ⟨v0, v1⟩, if_pos ⟨k0, by omega⟩]
                have hk := (hq k k0 k1).1
                obtain ⟨r, hr, hp⟩ := meet_b (Sm.of h1 hs hn) (Sm.of h1 hk.1 hk.2.1)
                rw [hr, bsome]
                exact Ok.ite (fun h => Ok.ret ⟨rfl, fun hh => hh k k0 k1 (hp.1 h)⟩) (fun h => Ok.gd (by unfold I64; omega) (Ok.ret ⟨rfl, fun hh => h (hp.2 hh)⟩))
              · cases x with
                | go _ => exact Ok.gd (by unfold I64; omega) (Ok.ret ⟨rfl, ⟨hs, hn, hf⟩, hx⟩)
                | up r =>
                  obtain ⟨rfl, hx⟩ := hx
                  exact Ok.ret ⟨rfl, fun h => hx h.2⟩
            · refine Ok.bindE (x := true) (by rw [if_neg (by simp), if_pos ⟨v0, v1⟩, (firmR_b h1 hs hn).f hf]; rfl) ?_
              rw [if_pos rfl]
              exact Ok.ret ⟨rfl, fun h => hf h.1.2.2⟩
          · refine Ok.bindE (x := true) (by rw [if_neg (by simp), if_pos ⟨v0, v1⟩, (onR_b h1 hs).f hn]; rfl) (Ok.bindE (x := true) (by rw [if_pos rfl]) ?_)
            rw [if_pos rfl]
            exact Ok.ret ⟨rfl, fun h => hn h.1.2.1⟩
        · rw [(sides_b _).f hs, bsome]
          refine Ok.bindE (x := true) (by rw [if_pos (by rfl)]) (Ok.bindE (x := true) (by rw [if_pos rfl]) ?_)
          rw [if_pos rfl]
          exact Ok.ret ⟨rfl, fun h => hs h.1.1⟩
      · refine Ok.bindE (x := true) (by rw [if_neg (by simp; omega), (ids_b hl).f h3]; rfl) ?_
        rw [if_pos rfl]
        exact Ok.ret ⟨fun e => (by cases e), fun h => absurd h.2.ris h3⟩
    · refine Ok.bindE (x := true) (by rw [if_pos (.inr (by omega))]) ?_
      rw [if_pos rfl]
      exact Ok.ret ⟨fun e => (by cases e), fun h => absurd h.2.len h2⟩
  · rw [(mayR_g hg).f h1, bsome]
    refine Ok.bindE (x := true) (by rw [if_pos (.inl (by rfl))]) ?_
    rw [if_pos rfl]
    exact Ok.ret ⟨fun e => (by cases e), fun h => absurd h.1 h1⟩
theorem may_b {g : Grd} {l : List Bld} (h1 : GOk g) (hl : l.length ≤ 9223372036854775806) : Bo (build_May g l) (MOk g l) := by
  have harea := h1.area
  have hgl := h1.2.2.1
  unfold build_May
  by_cases h2 : (l.length : Int) ≤ 256
  · by_cases h3 : Ris l
    · refine Ok.bindE (x := false) (by rw [if_neg (by omega), (rising_b hl).t h3]; rfl) ?_
      rw [if_neg (by simp), if_pos (by omega)]
      let Q : Int → Prop := fun i => (SOk (gi l i) ∧ NOk g (gi l i) ∧ Fm g (gi l i)) ∧ ∀ k : Int, 0 ≤ k → k < i → ¬ Meet (gi l i) (gi l k)
      have fin : (∀ i : Int, 0 ≤ i → i < l.length → Q i) ↔ MOk g l :=
        ⟨fun h => ⟨h2, h3, fun i i0 i1 => (h i i0 i1).1, fun i k k0 k1 i1 => (h i (by omega) i1).2 k k0 k1⟩, fun h i i0 i1 => ⟨h.each i i0 i1, fun k k0 k1 => h.apart i k k0 k1 i1⟩⟩
      refine Ok.bind (R := fun x => match x with | .go _ => (∀ i : Int, 0 ≤ i → i < l.length → Q i) | .up r => r = false ∧ ¬ ∀ i : Int, 0 ≤ i → i < l.length → Q i)
        (Ok.loop (fun z : Int × List Bool => (0 ≤ z.1 ∧ z.1 ≤ l.length) ∧ z.2.length = g.tiles.length ∧ (∀ i : Int, 0 ≤ i → i < z.1 → Q i) ∧ ∀ t : Int, 0 ≤ t → t < g.tiles.length → (gi z.2 t = true ↔ ∃ i : Int, 0 ≤ i ∧ i < z.1 ∧ In g (gi l i) t)) (fun z => (l.length - z.1).toNat)
        ⟨by simp, by simp, fun i i0 i1 => (by have : i < 0 := i1; omega), fun t t0 t1 => ?_⟩ (by unfold FUEL; simp; omega) ?_) ?_
      · show gi (List.replicate (g.tiles.length : Int).toNat false) t = true ↔ ∃ i : Int, 0 ≤ i ∧ i < 0 ∧ _
        rw [gi_replicate ⟨t0, by omega⟩]
        exact ⟨fun e => (by cases e), fun ⟨i, i0, i1, _⟩ => (by omega)⟩
      · rintro ⟨v, has⟩ ⟨⟨v0, v1⟩, hlen, hq, hh⟩
        dsimp only at v0 v1 hlen hq hh ⊢
        refine Ok.ite (fun hlt => ?_) (fun hlt => Ok.ret (fun i i0 i1 => hq i i0 (by omega)))
        refine Ok.gd ⟨v0, hlt⟩ ?_
        have no : ¬ Q v → ¬ ∀ i : Int, 0 ≤ i → i < l.length → Q i := fun hn h => hn (h v v0 hlt)
        by_cases hs : SOk (gi l v)
        · rw [(form_b _).t hs, bsome]
          by_cases hn : NOk g (gi l v)
          · refine Ok.bindE (x := false) (by rw [if_neg (by simp), (on_b h1 hs).t hn]; rfl) ?_
            by_cases hf : Fm g (gi l v)
            · refine Ok.bindE (x := false) (by rw [if_neg (by simp), (firm_b h1 hs hn).t hf]; rfl) ?_
              rw [if_neg (by simp)]
              refine Ok.bind (tiles_b h1 hs hn) fun ts hts => ?_
              have htl := hts.len
              have hwh := mul_bd (a := (gi l v).w) (b := (gi l v).h) (A := 4) (B := 4) (by have := hs.2.2.1; omega) (by have := hs.2.2.2; omega)
              refine Ok.bind (R := fun x => match x with | .go has' => has'.length = g.tiles.length ∧ (∀ t : Int, 0 ≤ t → t < g.tiles.length → (gi has' t = true ↔ (gi has t = true ∨ t ∈ ts))) ∧ ∀ t ∈ ts, ¬ gi has t = true | .up r => r = St.done (Ex.up false) ∧ ∃ t ∈ ts, gi has t = true)
                (Ok.loop (fun z : Int × List Bool => (0 ≤ z.1 ∧ z.1 ≤ ts.length) ∧ z.2.length = g.tiles.length ∧ (∀ t : Int, 0 ≤ t → t < g.tiles.length → (gi z.2 t = true ↔ (gi has t = true ∨ ∃ k : Int, 0 ≤ k ∧ k < z.1 ∧ gi ts k = t))) ∧ ∀ k : Int, 0 ≤ k → k < z.1 → ¬ gi has (gi ts k) = true) (fun z => (ts.length - z.1).toNat)
                ⟨by simp, hlen, fun t t0 t1 => ⟨fun h => .inl h, fun h => h.elim id fun ⟨k, k0, k1, _⟩ => (by have : k < 0 := k1; omega)⟩, fun k k0 k1 => (by have : k < 0 := k1; omega)⟩ (by unfold FUEL; simp; omega) ?_) ?_
              · rintro ⟨k, has2⟩ ⟨⟨k0, k1⟩, hlen2, hh2, hno⟩
                dsimp only at k0 k1 hlen2 hh2 hno ⊢
                refine Ok.ite (fun hk => ?_) (fun hk => Ok.ret ?_)
                · have hm : gi ts k ∈ ts := gi_mem ⟨k0, hk⟩
                  have hb := In.bd h1 hs hn ((hts.mem _).1 hm)
                  refine Ok.gd ⟨k0, hk⟩ (Ok.gd (by omega) (Ok.ite (fun ht => Ok.ret ⟨rfl, _, hm, ?_⟩) (fun ht => Ok.gd (by omega) (Ok.gd (by unfold I64; omega) (Ok.ret ⟨⟨by show 0 ≤ k + 1 ∧ k + 1 ≤ _; omega, by show (si has2 _ _).length = _; rw [len_si]; exact hlen2, fun t t0 t1 => ?_, fun j j0 j1 => ?_⟩, by show ((ts.length : Int) - (k + 1)).toNat < _; omega⟩)))))
                  · rcases (hh2 _ hb.1 (by omega)).1 ht with h | ⟨j, j0, j1, e⟩
                    · exact h
                    · have : j = k := by
                        have e1 := List.getElem_of_getElem? (gi_get (xs := ts) (j := j) ⟨j0, by omega⟩)
                        have e2 := List.getElem_of_getElem? (gi_get (xs := ts) (j := k) ⟨k0, hk⟩)
                        obtain ⟨q1, e1⟩ := e1
                        obtain ⟨q2, e2⟩ := e2
                        have := (List.getElem_inj hts.nd).1 (e1.trans (e.trans e2.symm))
                        omega
                      omega
                  · show gi (si has2 (gi ts k) true) t = true ↔ _ ∨ ∃ j : Int, 0 ≤ j ∧ j < k + 1 ∧ _
                    by_cases htk : gi ts k = t
                    · subst htk
                      rw [gi_si_self ⟨hb.1, by omega⟩]
                      exact ⟨fun _ => .inr ⟨k, k0, by omega, rfl⟩, fun _ => rfl⟩
                    · rw [gi_si_ne hb.1 t0 htk, hh2 t t0 t1]
                      constructor
                      · rintro (h | ⟨j, j0, j1, e⟩)
                        · exact .inl h
                        · exact .inr ⟨j, j0, by omega, e⟩
                      · rintro (h | ⟨j, j0, j1, e⟩)
                        · exact .inl h
                        · refine .inr ⟨j, j0, ?_, e⟩
                          have : j ≠ k := fun h => htk (h ▸ e)
                          omega
                  · by_cases hj : j = k
                    · subst hj
                      intro h
                      exact ht ((hh2 _ hb.1 (by omega)).2 (.inl h))
                    · exact hno j j0 (by have : j < k + 1 := j1; omega)
                · refine ⟨hlen2, fun t t0 t1 => ?_, fun t ht => ?_⟩
                  · rw [hh2 t t0 t1]
                    constructor
                    · rintro (h | ⟨j, j0, j1, e⟩)
                      · exact .inl h
                      · exact .inr (e ▸ gi_mem ⟨j0, by omega⟩)
                    · rintro (h | h)
                      · exact .inl h
                      · obtain ⟨j, j0, j1, e⟩ := gi_mem2.1 h
                        exact .inr ⟨j, j0, by omega, e⟩
                  · obtain ⟨j, j0, j1, e⟩ := gi_mem2.1 ht
                    exact e ▸ hno j j0 (by omega)
              · intro x hx
                cases x with
                | go has' =>
                  obtain ⟨e1, e2, e3⟩ := hx
                  refine Ok.gd (by unfold I64; omega) (Ok.ret ⟨⟨by show 0 ≤ v + 1 ∧ v + 1 ≤ _; omega, e1, fun i i0 i1 => ?_, fun t t0 t1 => ?_⟩, by show ((l.length : Int) - (v + 1)).toNat < _; omega⟩)
                  · by_cases hi : i = v
                    · subst hi
                      refine ⟨⟨hs, hn, hf⟩, fun k k0 k1 hm => ?_⟩
                      have hk := (hq k k0 k1).1
                      obtain ⟨t, t1, t2⟩ := (Meet.share h1 hs hk.1 hn hk.2.1).1 hm
                      have hb := In.bd h1 hs hn t1
                      exact e3 t ((hts.mem t).2 t1) ((hh t hb.1 (by omega)).2 ⟨k, k0, k1, t2⟩)
                    · exact hq i i0 (by have : i < v + 1 := i1; omega)
                  · show gi has' t = true ↔ ∃ i : Int, 0 ≤ i ∧ i < v + 1 ∧ _
                    rw [e2 t t0 t1, hh t t0 t1, hts.mem]
                    constructor
                    · rintro (⟨i, i0, i1, h⟩ | h)
                      · exact ⟨i, i0, by omega, h⟩
                      · exact ⟨v, v0, by omega, h⟩
                    · rintro ⟨i, i0, i1, h⟩
                      by_cases hi : i = v
                      · subst hi; exact .inr h
                      · exact .inl ⟨i, i0, by omega, h⟩
                | up r =>
                  obtain ⟨rfl, t, ht, hht⟩ := hx
                  refine Ok.ret ⟨rfl, no fun hqv => ?_⟩
                  have hin := (hts.mem t).1 ht
                  have hb := In.bd h1 hs hn hin
                  obtain ⟨k, k0, k1, h⟩ := (hh t hb.1 (by omega)).1 hht
                  have hk := (hq k k0 k1).1
                  exact hqv.2 k k0 k1 ((Meet.share h1 hs hk.1 hn hk.2.1).2 ⟨t, hin, h⟩)
            · refine Ok.bindE (x := true) (by rw [if_neg (by simp), (firm_b h1 hs hn).f hf]; rfl) ?_
              rw [if_pos rfl]
              exact Ok.ret ⟨rfl, no fun h => hf h.1.2.2⟩
          · refine Ok.bindE (x := true) (by rw [if_neg (by simp), (on_b h1 hs).f hn]; rfl) (Ok.bindE (x := true) (by rw [if_pos rfl]) ?_)
            rw [if_pos rfl]
            exact Ok.ret ⟨rfl, no fun h => hn h.1.2.1⟩
        · rw [(form_b _).f hs, bsome]
          refine Ok.bindE (x := true) (by rw [if_pos (by rfl)]) (Ok.bindE (x := true) (by rw [if_pos rfl]) ?_)
          rw [if_pos rfl]
          exact Ok.ret ⟨rfl, no fun h => hs h.1.1⟩
      · intro x hx
        cases x with
        | go _ => exact Ok.ret ⟨fun _ => fin.1 hx, fun _ => rfl⟩
        | up r => exact Ok.ret ⟨fun e => (by rw [hx.1] at e; cases e), fun h => absurd (fin.2 h) hx.2⟩
    · refine Ok.bindE (x := true) (by rw [if_neg (by omega), (rising_b hl).f h3]; rfl) ?_
      rw [if_pos rfl]
      exact Ok.ret ⟨fun e => (by cases e), fun h => absurd h.ris h3⟩
  · refine Ok.bindE (x := true) (by rw [if_pos (by omega)]) ?_
    rw [if_pos rfl]
    exact Ok.ret ⟨fun e => (by cases e), fun h => absurd h.len h2⟩
end Go.Proofs.Ytiipgdmcgmbbkaa
