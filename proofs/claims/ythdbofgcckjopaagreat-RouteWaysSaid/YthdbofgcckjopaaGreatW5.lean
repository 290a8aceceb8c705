/-
  Texts of one's own, joined: BP BQ BR BS BT FP FQ FR FS FU FV FW FX FY FA FB FC.
-/
import Derived.Test.YthdbofgcckjopaaGreatBG
import Derived.Test.YthdbofgcckjopaaGreatW3
import Derived.Test.YthdbofgcckjopaaGreatFG
set_option linter.unusedVariables false
set_option linter.unusedSimpArgs false
namespace Go.Proofs.YthdbofgcckjopaaGreat
open Go.Vg
def GOk (g : Grd) : Prop := (1 ≤ g.w ∧ g.w ≤ 128) ∧ (1 ≤ g.h ∧ g.h ≤ 128) ∧ (g.tiles.length : Int) = g.w * g.h ∧ ∀ i : Int, 0 ≤ i → i < g.tiles.length → ((gi g.tiles i).toNat : Int) ≤ 5
def SOk (b : Bld) : Prop := (1 ≤ b.id ∧ b.id ≤ 1099511627776) ∧ (1 ≤ b.owner ∧ b.owner ≤ 8) ∧ (1 ≤ b.w ∧ b.w ≤ 4) ∧ (1 ≤ b.h ∧ b.h ≤ 4)
def NOk (g : Grd) (b : Bld) : Prop := 0 ≤ b.x ∧ 0 ≤ b.y ∧ b.x + b.w ≤ g.w ∧ b.y + b.h ≤ g.h
def In (g : Grd) (b : Bld) (t : Int) : Prop := ∃ x y, (b.x ≤ x ∧ x < b.x + b.w) ∧ (b.y ≤ y ∧ y < b.y + b.h) ∧ t = x + g.w * y
def Fm (g : Grd) (b : Bld) : Prop := ∀ t, In g b t → ((gi g.tiles t).toNat : Int) ≤ 1
def Meet (a b : Bld) : Prop := a.x < b.x + b.w ∧ b.x < a.x + a.w ∧ a.y < b.y + b.h ∧ b.y < a.y + a.h
def Ris (l : List Bld) : Prop := ∀ i : Int, 1 ≤ i → i < l.length → (gi l (i - 1)).id < (gi l i).id
structure MOk (g : Grd) (l : List Bld) : Prop where
  len : (l.length : Int) ≤ 256
  ris : Ris l
  each : ∀ i : Int, 0 ≤ i → i < l.length → SOk (gi l i) ∧ NOk g (gi l i) ∧ Fm g (gi l i)
  apart : ∀ i k : Int, 0 ≤ k → k < i → i < l.length → ¬ Meet (gi l i) (gi l k)
theorem GOk.area {g : Grd} (h : GOk g) : 1 ≤ g.w * g.h ∧ g.w * g.h ≤ 16384 := by
  obtain ⟨h1, h2, _⟩ := h
  have := mul_bd (a := g.w) (b := g.h) (A := 128) (B := 128) (by omega) (by omega)
  have := Int.mul_le_mul_of_nonneg_left h2.1 (show 0 ≤ g.w by omega)
  omega
theorem side_b (n : Int) : Bo (ground_Side n) (1 ≤ n ∧ n ≤ 128) := Bo.dec Iff.rfl
theorem max_b {l : List UInt8} (h0 : 1 ≤ l.length) (hl : l.length ≤ 9223372036854775806) : Ok (slices_Max l) fun m => (m ≤ 5 ↔ ∀ i : Int, 0 ≤ i → i < l.length → ((gi l i).toNat : Int) ≤ 5) := by
  unfold slices_Max
  rw [if_neg (by omega), bsome, if_pos (by omega)]
  refine Ok.bind (R := fun m => (m ≤ 5 ↔ ∀ i : Int, 0 ≤ i → i < l.length → ((gi l i).toNat : Int) ≤ 5)) (Ok.loop (fun z : Int × Int => (1 ≤ z.2 ∧ z.2 ≤ l.length) ∧ (z.1 ≤ 5 ↔ ∀ i : Int, 0 ≤ i → i < z.2 → ((gi l i).toNat : Int) ≤ 5)) (fun z => (l.length - z.2).toNat) ⟨by simp; omega, ?_⟩ (by unfold FUEL; simp; omega) ?_) (fun x hx => Ok.ret hx)
  · constructor
    · intro h i i0 i1
      have : i = 0 := by have : i < 1 := i1; omega
      rw [this]; exact h
    · intro h; exact h 0 (by omega) (by show (0 : Int) < 1; omega)
  · rintro ⟨m, v⟩ ⟨⟨h1, h2⟩, h3⟩
    dsimp only at h1 h2 h3 ⊢
    refine Ok.ite (fun hlt => ?_) (fun hlt => Ok.ret ?_)
    · refine Ok.gd (by omega) (Ok.gd (by unfold I64; omega) (Ok.ret ⟨⟨by show 1 ≤ v + 1 ∧ v + 1 ≤ _; omega, ?_⟩, by show ((l.length : Int) - (v + 1)).toNat < _; omega⟩))
      show max m ((gi l v).toNat : Int) ≤ 5 ↔ ∀ i : Int, 0 ≤ i → i < v + 1 → _
      constructor
      · intro h i i0 i1
        by_cases hi : i = v
        · subst hi; omega
        · exact h3.1 (by omega) i i0 (by omega)
      · intro h
        have h4 := h3.2 fun i i0 i1 => h i i0 (by omega)
        have h5 := h v (by omega) (by omega)
        omega
    · have : v = l.length := by omega
      subst this; exact h3
theorem may_g {g : Grd} (hl : g.tiles.length ≤ 9223372036854775806) : Bo (ground_May g) (GOk g) := by
  unfold ground_May
  by_cases hw : 1 ≤ g.w ∧ g.w ≤ 128
  · rw [(side_b _).t hw, bsome]
    by_cases hh : 1 ≤ g.h ∧ g.h ≤ 128
    · have := mul_bd (a := g.w) (b := g.h) (A := 128) (B := 128) (by omega) (by omega)
      have := Int.mul_le_mul_of_nonneg_left hh.1 (show 0 ≤ g.w by omega)
      refine Ok.bindE (x := false) (by rw [if_neg (by simp), (side_b _).t hh]; rfl) (Ok.gd (fun _ => by unfold I64; omega) (Ok.ite (fun h => Ok.ret ?_) (fun h => ?_)))
      · have h2 : ¬ (g.tiles.length : Int) = g.w * g.h := h.resolve_left (by simp)
        exact ⟨fun e => (by cases e), fun e => absurd e.2.2.1 h2⟩
      · have h2 : (g.tiles.length : Int) = g.w * g.h := Classical.byContradiction fun e => h (.inr e)
        refine Ok.bind (max_b (by omega) hl) fun m hm => Ok.ret ?_
        rw [decide_eq_true_iff, hm]
        exact ⟨fun h => ⟨hw, hh, h2, h⟩, fun h => h.2.2.2⟩
    · refine Ok.bindE (x := true) (by rw [if_neg (by simp), (side_b _).f hh]; rfl) (Ok.gd (fun h => absurd rfl h) (Ok.ite (fun _ => Ok.ret ⟨fun e => (by cases e), fun e => absurd e.2.1 hh⟩) (fun h => absurd (.inl rfl) h)))
  · rw [(side_b _).f hw, bsome]
    refine Ok.bindE (x := true) (by rw [if_pos (by rfl)]) (Ok.gd (fun h => absurd rfl h) (Ok.ite (fun _ => Ok.ret ⟨fun e => (by cases e), fun e => absurd e.1 hw⟩) (fun h => absurd (.inl rfl) h)))
theorem mayR_g {g : Grd} (hl : g.tiles.length ≤ 9223372036854775806) : Bo (throngref5_Ground g) (GOk g) := by
  unfold throngref5_Ground
  by_cases hs : (1 ≤ g.w ∧ g.w ≤ 128) ∧ (1 ≤ g.h ∧ g.h ≤ 128)
  · have := mul_bd (a := g.w) (b := g.h) (A := 128) (B := 128) (by omega) (by omega)
    refine Ok.gd (fun _ => by unfold I64; omega) (Ok.ite (fun h => Ok.ret ⟨fun e => (by cases e), fun e => ?_⟩) (fun h => ?_))
    · exact absurd e.2.2.1 (h.resolve_left (by omega))
    · have h2 : (g.tiles.length : Int) = g.w * g.h := Classical.byContradiction fun e => h (.inr e)
      refine (scanBo (a := 0) (n := g.tiles.length) (fun i => ((gi g.tiles i).toNat : Int) ≤ 5) (by omega) (fun v h0 h1 _ => ?_) (fun v _ hv => by rw [if_neg (by omega)])).iff ⟨fun h => ⟨hs.1, hs.2, h2, h⟩, fun h => h.2.2.2⟩
      rw [if_pos h1, if_pos ⟨h0, h1⟩]
      exact Ok.ite (fun h => Ok.ret ⟨rfl, by omega⟩) (fun h => Ok.gd (by unfold I64; omega) (Ok.ret ⟨rfl, by omega⟩))
  · refine Ok.gd (fun h => absurd h (fun h => hs (by omega))) (Ok.ite (fun _ => Ok.ret ⟨fun e => (by cases e), fun e => absurd ⟨e.1, e.2.1⟩ hs⟩) (fun h => absurd (.inl (by omega)) h))
theorem form_b (b : Bld) : Bo (build_form b) (SOk b) := Bo.dec (by unfold SOk; omega)
theorem sides_b (b : Bld) : Bo (throngref8_Sides b) (SOk b) := Bo.dec (by unfold SOk; omega)
theorem on_b {g : Grd} {b : Bld} (hg : GOk g) (hs : SOk b) : Bo (build_on g b) (NOk g b) := by
  unfold build_on
  obtain ⟨h1, h2, _⟩ := hg
  obtain ⟨_, _, h3, h4⟩ := hs
  rw [if_pos (fun _ => by unfold I64; omega), if_pos (fun _ => by unfold I64; omega)]
  exact Bo.dec (by unfold NOk; omega)
theorem onR_b {g : Grd} {b : Bld} (hg : GOk g) (hs : SOk b) : Bo (throngref8_on g b) (NOk g b) := by
  unfold throngref8_on
  obtain ⟨h1, h2, _⟩ := hg
  obtain ⟨_, _, h3, h4⟩ := hs
  rw [if_pos (fun _ => by unfold I64; omega), if_pos (fun _ => by unfold I64; omega)]
  exact Bo.dec (by unfold NOk; omega)
theorem In.at {g : Grd} {b : Bld} (hs : SOk b) (hn : NOk g b) {x y : Int} (hx : b.x ≤ x ∧ x < b.x + b.w) (hy : b.y ≤ y ∧ y < b.y + b.h) : (x + g.w * y) / g.w = y ∧ (x + g.w * y) % g.w = x := by
  obtain ⟨n1, n2, n3, n4⟩ := hn
  exact xy_inj ⟨by omega, by omega⟩
theorem In.bd {g : Grd} {b : Bld} (hg : GOk g) (hs : SOk b) (hn : NOk g b) {t : Int} (h : In g b t) : 0 ≤ t ∧ t < g.w * g.h := by
  obtain ⟨x, y, hx, hy, rfl⟩ := h
  obtain ⟨n1, n2, n3, n4⟩ := hn
  have h1 := hg.1
  have := Int.mul_nonneg (show 0 ≤ g.w by omega) (show 0 ≤ y by omega)
  have := Int.mul_le_mul_of_nonneg_left (show y ≤ g.h - 1 by omega) (show 0 ≤ g.w by omega)
  rw [Int.mul_sub] at this
  omega
theorem In.iff {g : Grd} {b : Bld} (hg : GOk g) (hs : SOk b) (hn : NOk g b) {t : Int} : In g b t ↔ (b.x ≤ t % g.w ∧ t % g.w < b.x + b.w) ∧ (b.y ≤ t / g.w ∧ t / g.w < b.y + b.h) := by
  constructor
  · rintro ⟨x, y, hx, hy, rfl⟩
    have := In.at hs hn hx hy
    rw [this.1, this.2]; exact ⟨hx, hy⟩
  · rintro ⟨h1, h2⟩
    exact ⟨_, _, h1, h2, by have := Int.emod_add_mul_ediv t g.w; omega⟩
/-- A building's tiles, one by one. -/
structure TL (g : Grd) (b : Bld) (l : List Int) : Prop where
  mem : ∀ t, t ∈ l ↔ In g b t
  nd : l.Nodup
  len : (l.length : Int) = b.w * b.h
theorem tiles_b {g : Grd} {b : Bld} (hg : GOk g) (hs : SOk b) (hn : NOk g b) : Ok (build_Tiles g b) (TL g b) := by
  have hn' := hn
  have hs' := hs
  obtain ⟨n1, n2, n3, n4⟩ := hn'
  obtain ⟨_, _, s3, s4⟩ := hs'
  obtain ⟨g1, g2, _⟩ := hg
  have hwh := mul_bd (a := b.w) (b := b.h) (A := 4) (B := 4) (by omega) (by omega)
  unfold build_Tiles
  refine Ok.bind (R := TL g b) (Ok.loop (fun z : List Int × Int => (0 ≤ z.2 ∧ z.2 ≤ b.h) ∧ (∀ t, t ∈ z.1 ↔ ∃ x y, (b.x ≤ x ∧ x < b.x + b.w) ∧ (b.y ≤ y ∧ y < b.y + z.2) ∧ t = x + g.w * y) ∧ z.1.Nodup ∧ (z.1.length : Int) = b.w * z.2) (fun z => (b.h - z.2).toNat)
    ⟨by simp; omega, fun t => ⟨fun h => (by cases h), fun ⟨x, y, _, hy, _⟩ => (by have : y < b.y + 0 := hy.2; omega)⟩, by simp, by simp⟩ (by unfold FUEL; simp; omega) ?_) (fun x hx => Ok.ret hx)
  rintro ⟨l, v⟩ ⟨⟨v0, v1⟩, hm, hd, hlen⟩
  dsimp only at v0 v1 hm hd hlen ⊢
  have hbv := mul_bd (a := b.w) (b := v) (A := 4) (B := 4) (by omega) (by omega)
  refine Ok.ite (fun hlt => ?_) (fun hlt => Ok.ret ?_)
  · have hy : 0 ≤ b.y + v ∧ b.y + v ≤ 127 := by omega
    have hwy := mul_bd (a := g.w) (b := b.y + v) (A := 128) (B := 127) (by omega) hy
    refine Ok.bind (R := fun l' => (∀ t, t ∈ l' ↔ ∃ x y, (b.x ≤ x ∧ x < b.x + b.w) ∧ (b.y ≤ y ∧ y < b.y + (v + 1)) ∧ t = x + g.w * y) ∧ l'.Nodup ∧ (l'.length : Int) = b.w * (v + 1)) (Ok.loop (fun z : Int × List Int => (0 ≤ z.1 ∧ z.1 ≤ b.w) ∧ (∀ t, t ∈ z.2 ↔ (t ∈ l ∨ ∃ x, (b.x ≤ x ∧ x < b.x + z.1) ∧ t = x + g.w * (b.y + v))) ∧ z.2.Nodup ∧ (z.2.length : Int) = l.length + z.1) (fun z => (b.w - z.1).toNat)
      ⟨by simp; omega, fun t => ⟨fun h => .inl h, fun h => h.elim id fun ⟨x, hx, _⟩ => (by have : x < b.x + 0 := hx.2; omega)⟩, hd, by simp⟩ (by unfold FUEL; simp; omega) ?_) ?_
    · rintro ⟨u, m⟩ ⟨⟨u0, u1⟩, hm2, hd2, hl2⟩
      dsimp only at u0 u1 hm2 hd2 hl2 ⊢
      refine Ok.ite (fun hu => ?_) (fun hu => Ok.ret ?_)
      · refine Ok.gd (by unfold I64; omega) (Ok.gd (by unfold I64; omega) (Ok.gd (by unfold I64; omega) (Ok.gd (by unfold I64; omega) (Ok.gd (by omega) (Ok.gd (by unfold I64; omega) (Ok.ret ⟨⟨by show 0 ≤ u + 1 ∧ u + 1 ≤ _; omega, fun t => ?_, ?_, ?_⟩, by show (b.w - (u + 1)).toNat < _; omega⟩))))))
        · show t ∈ m ++ [_] ↔ t ∈ l ∨ ∃ x, (b.x ≤ x ∧ x < b.x + (u + 1)) ∧ _
          rw [List.mem_append, List.mem_singleton, hm2]
          constructor
          · rintro ((h | ⟨x, hx, e⟩) | e)
            · exact .inl h
            · exact .inr ⟨x, by omega, e⟩
            · exact .inr ⟨b.x + u, by omega, e⟩
          · rintro (h | ⟨x, hx, e⟩)
            · exact .inl (.inl h)
            · by_cases hxu : x = b.x + u
              · subst hxu; exact .inr e
              · exact .inl (.inr ⟨x, by omega, e⟩)
        · show (m ++ [_]).Nodup
          rw [List.nodup_append]
          refine ⟨hd2, by simp, fun a ha b' hb' e => ?_⟩
          rw [List.mem_singleton] at hb'
          subst hb'; subst e
          have hxx := xy_inj (W := g.w) (x := b.x + u) (y := b.y + v) ⟨by omega, by omega⟩
          rcases (hm2 _).1 ha with h | ⟨x, hx, e⟩
          · obtain ⟨x, y, hx, hy2, e⟩ := (hm _).1 h
            have h3 := xy_inj (W := g.w) (x := x) (y := y) ⟨by omega, by omega⟩
            rw [← e] at h3
            omega
          · have h3 := xy_inj (W := g.w) (x := x) (y := b.y + v) ⟨by omega, by omega⟩
            rw [← e] at h3
            omega
        · show ((m ++ [_]).length : Int) = l.length + (u + 1)
          simp; omega
      · have hub : u = b.w := by omega
        subst hub
        refine ⟨fun t => ?_, hd2, by rw [Int.mul_add, Int.mul_one]; omega⟩
        rw [hm2, hm]
        constructor
        · rintro (⟨x, y, hx, hy2, e⟩ | ⟨x, hx, e⟩)
          · exact ⟨x, y, hx, by omega, e⟩
          · exact ⟨x, b.y + v, hx, by omega, e⟩
        · rintro ⟨x, y, hx, hy2, e⟩
          by_cases hyv : y = b.y + v
          · subst hyv; exact .inr ⟨x, hx, e⟩
          · exact .inl ⟨x, y, hx, by omega, e⟩
    · rintro l' ⟨a1, a2, a3⟩
      exact Ok.gd (by unfold I64; omega) (Ok.ret ⟨⟨by show 0 ≤ v + 1 ∧ v + 1 ≤ _; omega, a1, a2, a3⟩, by show (b.h - (v + 1)).toNat < _; omega⟩)
  · have hvb : v = b.h := by omega
    subst hvb
    exact ⟨hm, hd, hlen⟩
end Go.Proofs.YthdbofgcckjopaaGreat
set_option linter.unusedVariables false
set_option linter.unusedSimpArgs false
namespace Go.Proofs.YthdbofgcckjopaaGreat
open Go.Vg
theorem indexF_b {l : List Int} {f : Int → Option Bool} {P : Int → Prop} (hl : l.length ≤ 9223372036854775806) (hf : ∀ t ∈ l, Bo (f t) (P t)) : Ok (slices_IndexFunc l f) fun r => (r = -1 ∧ ∀ i : Int, 0 ≤ i → i < l.length → ¬ P (gi l i)) ∨ (0 ≤ r ∧ r < l.length ∧ P (gi l r)) := by
  unfold slices_IndexFunc
  refine Ok.bind (scanOk (a := 0) (n := l.length) (fun i => ¬ P (gi l i)) (fun r : Int => 0 ≤ r ∧ r < l.length ∧ P (gi l r)) (by omega) (fun v h0 h1 _ => ?_) (fun v _ hv => by rw [if_neg (by omega)])) (fun x hx => ?_)
  · rw [if_pos h1, if_pos ⟨h0, h1⟩]
    obtain ⟨r, hr, hp⟩ := hf _ (gi_mem ⟨h0, h1⟩)
    rw [hr, bsome]
    exact Ok.ite (fun h => Ok.ret ⟨h0, h1, hp.1 h⟩) (fun h => Ok.gd (by unfold I64; omega) (Ok.ret ⟨rfl, fun hh => h (hp.2 hh)⟩))
  · cases x with
    | go _ => exact Ok.ret (.inl ⟨rfl, hx⟩)
    | up r => exact Ok.ret (.inr hx)
theorem containsF_b {l : List Int} {f : Int → Option Bool} {P : Int → Prop} (hl : l.length ≤ 9223372036854775806) (hf : ∀ t ∈ l, Bo (f t) (P t)) : Bo (slices_ContainsFunc l f) (∃ t ∈ l, P t) := by
  unfold slices_ContainsFunc
  refine Ok.bind (indexF_b hl hf) ?_
  rintro r (⟨rfl, h⟩ | ⟨h0, h1, h2⟩)
  · refine Ok.ret ⟨fun e => (by simp at e), fun ⟨t, ht, hp⟩ => ?_⟩
    obtain ⟨i, i0, i1, rfl⟩ := gi_mem2.1 ht
    exact absurd hp (h i i0 i1)
  · exact Ok.ret ⟨fun _ => ⟨_, gi_mem ⟨h0, h1⟩, h2⟩, fun _ => decide_eq_true h0⟩
theorem firm_b {g : Grd} {b : Bld} (hg : GOk g) (hs : SOk b) (hn : NOk g b) : Bo (build_firm g b) (Fm g b) := by
  unfold build_firm
  refine Ok.bind (tiles_b hg hs hn) fun l hl => ?_
  have hlen := hl.len
  have hwh := mul_bd (a := b.w) (b := b.h) (A := 4) (B := 4) (by have := hs.2.2.1; omega) (by have := hs.2.2.2; omega)
  have h3 := hg.2.2.1
  obtain ⟨r, hr, hp⟩ := containsF_b (l := l) (f := fun y => build_firm_1 y g) (P := fun t => 1 < ((gi g.tiles t).toNat : Int)) (by omega) (fun t ht => by
    have hb := In.bd hg hs hn ((hl.mem t).1 ht)
    unfold build_firm_1
    rw [if_pos (by omega)]
    exact Bo.dec Iff.rfl)
  rw [hr, bsome]
  refine Ok.ret ?_
  rw [Bool.not_eq_true', ← Bool.not_eq_true, hp]
  constructor
  · intro h t ht
    have : ¬ 1 < ((gi g.tiles t).toNat : Int) := fun hh => h ⟨t, (hl.mem t).2 ht, hh⟩
    omega
  · rintro h ⟨t, ht, hh⟩
    have := h t ((hl.mem t).1 ht)
    omega
theorem has_b {g : Grd} {b : Bld} (hg : GOk g) (hs : SOk b) (hn : NOk g b) {t : Int} (ht : 0 ≤ t ∧ t < g.w * g.h) : Bo (throngref8_Has g b t) (In g b t) := by
  have ha := hg.area
  have hn' := hn
  have hs' := hs
  obtain ⟨n1, n2, n3, n4⟩ := hn'
  obtain ⟨_, _, s3, s4⟩ := hs'
  obtain ⟨g1, g2, _⟩ := hg
  unfold throngref8_Has
  rw [if_pos (by omega), if_pos (by omega), if_pos (fun _ => by unfold I64; omega), if_pos (fun _ => by unfold I64; omega)]
  exact Bo.dec (by rw [In.iff ⟨g1, g2, ‹_›⟩ hs hn]; omega)
theorem firmR_b {g : Grd} {b : Bld} (hg : GOk g) (hs : SOk b) (hn : NOk g b) : Bo (throngref8_firm g b) (Fm g b) := by
  have ha := hg.area
  have h3 := hg.2.2.1
  unfold throngref8_firm
  refine (scanBo (a := 0) (n := g.w * g.h) (fun t => In g b t → ((gi g.tiles t).toNat : Int) ≤ 1) (by omega) (fun v h0 h1 _ => ?_) (fun v _ hv => by rw [if_pos (by unfold I64; omega), if_neg (by omega)])).iff ⟨fun h t ht => ?_, fun h t _ _ ht => h t ht⟩
  · rw [if_pos (by unfold I64; omega), if_pos h1]
    obtain ⟨r, hr, hp⟩ := has_b hg hs hn ⟨h0, h1⟩
    rw [hr, bsome]
    refine Ok.gd (fun _ => by omega) (Ok.gd (fun _ => by omega) (Ok.ite (fun h => Ok.ret ⟨rfl, fun hh => ?_⟩) (fun h => Ok.gd (by unfold I64; omega) (Ok.ret ⟨rfl, fun hin => ?_⟩))))
    · have := hh (hp.1 h.1.1); omega
    · have : r = true := hp.2 hin
      apply Classical.byContradiction; intro hc
      exact h ⟨⟨this, by omega⟩, by omega⟩
  · have hb := In.bd hg hs hn ht
    exact h t hb.1 hb.2 ht
/-- Where a building lies on a ground, its numbers are small. -/
def Sm (b : Bld) : Prop := (0 ≤ b.x ∧ b.x ≤ 128) ∧ (0 ≤ b.y ∧ b.y ≤ 128) ∧ (1 ≤ b.w ∧ b.w ≤ 4) ∧ (1 ≤ b.h ∧ b.h ≤ 4)
theorem Sm.of {g : Grd} {b : Bld} (hg : GOk g) (hs : SOk b) (hn : NOk g b) : Sm b := by
  obtain ⟨n1, n2, n3, n4⟩ := hn
  obtain ⟨_, _, s3, s4⟩ := hs
  obtain ⟨g1, g2, _⟩ := hg
  unfold Sm; omega
theorem meet_b {a b : Bld} (ha : Sm a) (hb : Sm b) : Bo (throngref8_meet a b) (Meet a b) := by
  unfold Sm at ha hb
  unfold throngref8_meet
  rw [if_pos (by unfold I64; omega), if_pos (fun _ => by unfold I64; omega), if_pos (fun _ => by unfold I64; omega), if_pos (fun _ => by unfold I64; omega)]
  exact Bo.dec (by unfold Meet; omega)
theorem Meet.share {g : Grd} {a b : Bld} (hg : GOk g) (ha : SOk a) (hb : SOk b) (na : NOk g a) (nb : NOk g b) : Meet a b ↔ ∃ t, In g a t ∧ In g b t := by
  constructor
  · rintro ⟨h1, h2, h3, h4⟩
    obtain ⟨_, _, a3, a4⟩ := ha
    obtain ⟨_, _, b3, b4⟩ := hb
    exact ⟨_, ⟨max a.x b.x, max a.y b.y, by omega, by omega, rfl⟩, ⟨max a.x b.x, max a.y b.y, by omega, by omega, rfl⟩⟩
  · rintro ⟨t, h1, h2⟩
    obtain ⟨h1, h3⟩ := (In.iff hg ha na).1 h1
    obtain ⟨h2, h4⟩ := (In.iff hg hb nb).1 h2
    unfold Meet; omega
theorem rising_b {l : List Bld} (hl : l.length ≤ 9223372036854775806) : Bo (build_rising l) (Ris l) := by
  unfold build_rising
  refine scanBo (a := 1) (n := l.length) (fun i => (gi l (i - 1)).id < (gi l i).id) (by omega) (fun v h0 h1 _ => ?_) (fun v _ hv => by rw [if_neg (by omega)])
  rw [if_pos h1]
  exact Ok.gd (by unfold I64; omega) (Ok.gd (by omega) (Ok.gd (by omega) (Ok.ite (fun h => Ok.ret ⟨rfl, by omega⟩) (fun h => Ok.gd (by unfold I64; omega) (Ok.ret ⟨rfl, by omega⟩)))))
theorem ids_b {l : List Bld} (hl : l.length ≤ 9223372036854775806) : Bo (throngref8_IDs l) (Ris l) := by
  unfold throngref8_IDs
  refine scanBo (a := 1) (n := l.length) (fun i => (gi l (i - 1)).id < (gi l i).id) (by omega) (fun v h0 h1 _ => ?_) (fun v _ hv => by rw [if_neg (by omega)])
  rw [if_pos h1]
  exact Ok.gd (by omega) (Ok.gd (by unfold I64; omega) (Ok.gd (by omega) (Ok.ite (fun h => Ok.ret ⟨rfl, by omega⟩) (fun h => Ok.gd (by unfold I64; omega) (Ok.ret ⟨rfl, by omega⟩)))))
theorem mayR_b {g : Grd} {l : List Bld} (hg : g.tiles.length ≤ 9223372036854775806) (hl : l.length ≤ 9223372036854775806) : Bo (throngref8_May g l) (GOk g ∧ MOk g l) := by
  unfold throngref8_May
  by_cases h1 : GOk g
  · rw [(mayR_g hg).t h1, bsome]
    by_cases h2 : (l.length : Int) ≤ 256
    · by_cases h3 : Ris l
      · refine Ok.bindE (x := false) (by rw [if_neg (by simp; omega), (ids_b hl).t h3]; rfl) ?_
        rw [if_neg (by simp)]
        refine (scanBo (a := 0) (n := l.length) (fun i => (SOk (gi l i) ∧ NOk g (gi l i) ∧ Fm g (gi l i)) ∧ ∀ k : Int, 0 ≤ k → k < i → ¬ Meet (gi l i) (gi l k)) (by omega) (fun v v0 v1 hq => ?_) (fun v _ hv => by rw [if_neg (by omega)])).iff
          ⟨fun h => ⟨h1, h2, h3, fun i i0 i1 => (h i i0 i1).1, fun i k k0 k1 i1 => (h i (by omega) i1).2 k k0 k1⟩, fun h i i0 i1 => ⟨h.2.each i i0 i1, fun k k0 k1 => h.2.apart i k k0 k1 i1⟩⟩
        rw [if_pos v1, if_pos ⟨v0, v1⟩]
        by_cases hs : SOk (gi l v)
        · rw [(sides_b _).t hs, bsome]
          by_cases hn : NOk g (gi l v)
          · refine Ok.bindE (x := false) (by rw [if_neg (by simp), if_pos ⟨v0, v1⟩, (onR_b h1 hs).t hn]; rfl) ?_
            by_cases hf : Fm g (gi l v)
            · refine Ok.bindE (x := false) (by rw [if_neg (by simp), if_pos ⟨v0, v1⟩, (firmR_b h1 hs hn).t hf]; rfl) ?_
              rw [if_neg (by simp)]
              refine Ok.bind (scanOk (a := 0) (n := v) (fun k => ¬ Meet (gi l v) (gi l k)) (fun r => r = St.done (Ex.up false) ∧ ¬ ∀ k : Int, 0 ≤ k → k < v → ¬ Meet (gi l v) (gi l k)) (by omega) (fun k k0 k1 _ => ?_) (fun k _ hk => by rw [if_neg (by omega)])) (fun x hx => ?_)
              · rw [if_pos k1, if_pos ⟨v0, v1⟩, if_pos ⟨k0, by omega⟩]
                have hk := (hq k k0 k1).1
                obtain ⟨r, hr, hp⟩ := meet_b (Sm.of h1 hs hn) (Sm.of h1 hk.1 hk.2.1)
                rw [hr, bsome]
                exact Ok.ite (fun h => Ok.ret ⟨rfl, fun hh => hh k k0 k1 (hp.1 h)⟩) (fun h => Ok.gd (by unfold I64; omega) (Ok.ret ⟨rfl, fun hh => h (hp.2 hh)⟩))
              · cases x with
                | go _ => exact Ok.gd (by unfold I64; omega) (Ok.ret ⟨rfl, ⟨hs, hn, hf⟩, hx⟩)
                | up r =>
                  obtain ⟨rfl, hx⟩ := hx
                  exact Ok.ret ⟨rfl, fun h => hx h.2⟩
            · refine Ok.bindE (x := true) (by rw [if_neg (by simp), if_pos ⟨v0, v1⟩, (firmR_b h1 hs hn).f hf]; rfl) ?_
              rw [if_pos rfl]
              exact Ok.ret ⟨rfl, fun h => hf h.1.2.2⟩
          · refine Ok.bindE (x := true) (by rw [if_neg (by simp), if_pos ⟨v0, v1⟩, (onR_b h1 hs).f hn]; rfl) (Ok.bindE (x := true) (by rw [if_pos rfl]) ?_)
            rw [if_pos rfl]
            exact Ok.ret ⟨rfl, fun h => hn h.1.2.1⟩
        · rw [(sides_b _).f hs, bsome]
          refine Ok.bindE (x := true) (by rw [if_pos (by rfl)]) (Ok.bindE (x := true) (by rw [if_pos rfl]) ?_)
          rw [if_pos rfl]
          exact Ok.ret ⟨rfl, fun h => hs h.1.1⟩
      · refine Ok.bindE (x := true) (by rw [if_neg (by simp; omega), (ids_b hl).f h3]; rfl) ?_
        rw [if_pos rfl]
        exact Ok.ret ⟨fun e => (by cases e), fun h => absurd h.2.ris h3⟩
    · refine Ok.bindE (x := true) (by rw [if_pos (.inr (by omega))]) ?_
      rw [if_pos rfl]
      exact Ok.ret ⟨fun e => (by cases e), fun h => absurd h.2.len h2⟩
  · rw [(mayR_g hg).f h1, bsome]
    refine Ok.bindE (x := true) (by rw [if_pos (.inl (by rfl))]) ?_
    rw [if_pos rfl]
    exact Ok.ret ⟨fun e => (by cases e), fun h => absurd h.1 h1⟩
theorem may_b {g : Grd} {l : List Bld} (h1 : GOk g) (hl : l.length ≤ 9223372036854775806) : Bo (build_May g l) (MOk g l) := by
  have harea := h1.area
  have hgl := h1.2.2.1
  unfold build_May
  by_cases h2 : (l.length : Int) ≤ 256
  · by_cases h3 : Ris l
    · refine Ok.bindE (x := false) (by rw [if_neg (by omega), (rising_b hl).t h3]; rfl) ?_
      rw [if_neg (by simp), if_pos (by omega)]
      let Q : Int → Prop := fun i => (SOk (gi l i) ∧ NOk g (gi l i) ∧ Fm g (gi l i)) ∧ ∀ k : Int, 0 ≤ k → k < i → ¬ Meet (gi l i) (gi l k)
      have fin : (∀ i : Int, 0 ≤ i → i < l.length → Q i) ↔ MOk g l :=
        ⟨fun h => ⟨h2, h3, fun i i0 i1 => (h i i0 i1).1, fun i k k0 k1 i1 => (h i (by omega) i1).2 k k0 k1⟩, fun h i i0 i1 => ⟨h.each i i0 i1, fun k k0 k1 => h.apart i k k0 k1 i1⟩⟩
      refine Ok.bind (R := fun x => match x with | .go _ => (∀ i : Int, 0 ≤ i → i < l.length → Q i) | .up r => r = false ∧ ¬ ∀ i : Int, 0 ≤ i → i < l.length → Q i)
        (Ok.loop (fun z : Int × List Bool => (0 ≤ z.1 ∧ z.1 ≤ l.length) ∧ z.2.length = g.tiles.length ∧ (∀ i : Int, 0 ≤ i → i < z.1 → Q i) ∧ ∀ t : Int, 0 ≤ t → t < g.tiles.length → (gi z.2 t = true ↔ ∃ i : Int, 0 ≤ i ∧ i < z.1 ∧ In g (gi l i) t)) (fun z => (l.length - z.1).toNat)
        ⟨by simp, by simp, fun i i0 i1 => (by have : i < 0 := i1; omega), fun t t0 t1 => ?_⟩ (by unfold FUEL; simp; omega) ?_) ?_
      · show gi (List.replicate (g.tiles.length : Int).toNat false) t = true ↔ ∃ i : Int, 0 ≤ i ∧ i < 0 ∧ _
        rw [gi_replicate ⟨t0, by omega⟩]
        exact ⟨fun e => (by cases e), fun ⟨i, i0, i1, _⟩ => (by omega)⟩
      · rintro ⟨v, has⟩ ⟨⟨v0, v1⟩, hlen, hq, hh⟩
        dsimp only at v0 v1 hlen hq hh ⊢
        refine Ok.ite (fun hlt => ?_) (fun hlt => Ok.ret (fun i i0 i1 => hq i i0 (by omega)))
        refine Ok.gd ⟨v0, hlt⟩ ?_
        have no : ¬ Q v → ¬ ∀ i : Int, 0 ≤ i → i < l.length → Q i := fun hn h => hn (h v v0 hlt)
        by_cases hs : SOk (gi l v)
        · rw [(form_b _).t hs, bsome]
          by_cases hn : NOk g (gi l v)
          · refine Ok.bindE (x := false) (by rw [if_neg (by simp), (on_b h1 hs).t hn]; rfl) ?_
            by_cases hf : Fm g (gi l v)
            · refine Ok.bindE (x := false) (by rw [if_neg (by simp), (firm_b h1 hs hn).t hf]; rfl) ?_
              rw [if_neg (by simp)]
              refine Ok.bind (tiles_b h1 hs hn) fun ts hts => ?_
              have htl := hts.len
              have hwh := mul_bd (a := (gi l v).w) (b := (gi l v).h) (A := 4) (B := 4) (by have := hs.2.2.1; omega) (by have := hs.2.2.2; omega)
              refine Ok.bind (R := fun x => match x with | .go has' => has'.length = g.tiles.length ∧ (∀ t : Int, 0 ≤ t → t < g.tiles.length → (gi has' t = true ↔ (gi has t = true ∨ t ∈ ts))) ∧ ∀ t ∈ ts, ¬ gi has t = true | .up r => r = St.done (Ex.up false) ∧ ∃ t ∈ ts, gi has t = true)
                (Ok.loop (fun z : Int × List Bool => (0 ≤ z.1 ∧ z.1 ≤ ts.length) ∧ z.2.length = g.tiles.length ∧ (∀ t : Int, 0 ≤ t → t < g.tiles.length → (gi z.2 t = true ↔ (gi has t = true ∨ ∃ k : Int, 0 ≤ k ∧ k < z.1 ∧ gi ts k = t))) ∧ ∀ k : Int, 0 ≤ k → k < z.1 → ¬ gi has (gi ts k) = true) (fun z => (ts.length - z.1).toNat)
                ⟨by simp, hlen, fun t t0 t1 => ⟨fun h => .inl h, fun h => h.elim id fun ⟨k, k0, k1, _⟩ => (by have : k < 0 := k1; omega)⟩, fun k k0 k1 => (by have : k < 0 := k1; omega)⟩ (by unfold FUEL; simp; omega) ?_) ?_
              · rintro ⟨k, has2⟩ ⟨⟨k0, k1⟩, hlen2, hh2, hno⟩
                dsimp only at k0 k1 hlen2 hh2 hno ⊢
                refine Ok.ite (fun hk => ?_) (fun hk => Ok.ret ?_)
                · have hm : gi ts k ∈ ts := gi_mem ⟨k0, hk⟩
                  have hb := In.bd h1 hs hn ((hts.mem _).1 hm)
                  refine Ok.gd ⟨k0, hk⟩ (Ok.gd (by omega) (Ok.ite (fun ht => Ok.ret ⟨rfl, _, hm, ?_⟩) (fun ht => Ok.gd (by omega) (Ok.gd (by unfold I64; omega) (Ok.ret ⟨⟨by show 0 ≤ k + 1 ∧ k + 1 ≤ _; omega, by show (si has2 _ _).length = _; rw [len_si]; exact hlen2, fun t t0 t1 => ?_, fun j j0 j1 => ?_⟩, by show ((ts.length : Int) - (k + 1)).toNat < _; omega⟩)))))
                  · rcases (hh2 _ hb.1 (by omega)).1 ht with h | ⟨j, j0, j1, e⟩
                    · exact h
                    · have : j = k := by
                        have e1 := List.getElem_of_getElem? (gi_get (xs := ts) (j := j) ⟨j0, by omega⟩)
                        have e2 := List.getElem_of_getElem? (gi_get (xs := ts) (j := k) ⟨k0, hk⟩)
                        obtain ⟨q1, e1⟩ := e1
                        obtain ⟨q2, e2⟩ := e2
                        have := (List.getElem_inj hts.nd).1 (e1.trans (e.trans e2.symm))
                        omega
                      omega
                  · show gi (si has2 (gi ts k) true) t = true ↔ _ ∨ ∃ j : Int, 0 ≤ j ∧ j < k + 1 ∧ _
                    by_cases htk : gi ts k = t
                    · subst htk
                      rw [gi_si_self ⟨hb.1, by omega⟩]
                      exact ⟨fun _ => .inr ⟨k, k0, by omega, rfl⟩, fun _ => rfl⟩
                    · rw [gi_si_ne hb.1 t0 htk, hh2 t t0 t1]
                      constructor
                      · rintro (h | ⟨j, j0, j1, e⟩)
                        · exact .inl h
                        · exact .inr ⟨j, j0, by omega, e⟩
                      · rintro (h | ⟨j, j0, j1, e⟩)
                        · exact .inl h
                        · refine .inr ⟨j, j0, ?_, e⟩
                          have : j ≠ k := fun h => htk (h ▸ e)
                          omega
                  · by_cases hj : j = k
                    · subst hj
                      intro h
                      exact ht ((hh2 _ hb.1 (by omega)).2 (.inl h))
                    · exact hno j j0 (by have : j < k + 1 := j1; omega)
                · refine ⟨hlen2, fun t t0 t1 => ?_, fun t ht => ?_⟩
                  · rw [hh2 t t0 t1]
                    constructor
                    · rintro (h | ⟨j, j0, j1, e⟩)
                      · exact .inl h
                      · exact .inr (e ▸ gi_mem ⟨j0, by omega⟩)
                    · rintro (h | h)
                      · exact .inl h
                      · obtain ⟨j, j0, j1, e⟩ := gi_mem2.1 h
                        exact .inr ⟨j, j0, by omega, e⟩
                  · obtain ⟨j, j0, j1, e⟩ := gi_mem2.1 ht
                    exact e ▸ hno j j0 (by omega)
              · intro x hx
                cases x with
                | go has' =>
                  obtain ⟨e1, e2, e3⟩ := hx
                  refine Ok.gd (by unfold I64; omega) (Ok.ret ⟨⟨by show 0 ≤ v + 1 ∧ v + 1 ≤ _; omega, e1, fun i i0 i1 => ?_, fun t t0 t1 => ?_⟩, by show ((l.length : Int) - (v + 1)).toNat < _; omega⟩)
                  · by_cases hi : i = v
                    · subst hi
                      refine ⟨⟨hs, hn, hf⟩, fun k k0 k1 hm => ?_⟩
                      have hk := (hq k k0 k1).1
                      obtain ⟨t, t1, t2⟩ := (Meet.share h1 hs hk.1 hn hk.2.1).1 hm
                      have hb := In.bd h1 hs hn t1
                      exact e3 t ((hts.mem t).2 t1) ((hh t hb.1 (by omega)).2 ⟨k, k0, k1, t2⟩)
                    · exact hq i i0 (by have : i < v + 1 := i1; omega)
                  · show gi has' t = true ↔ ∃ i : Int, 0 ≤ i ∧ i < v + 1 ∧ _
                    rw [e2 t t0 t1, hh t t0 t1, hts.mem]
                    constructor
                    · rintro (⟨i, i0, i1, h⟩ | h)
                      · exact ⟨i, i0, by omega, h⟩
                      · exact ⟨v, v0, by omega, h⟩
                    · rintro ⟨i, i0, i1, h⟩
                      by_cases hi : i = v
                      · subst hi; exact .inr h
                      · exact .inl ⟨i, i0, by omega, h⟩
                | up r =>
                  obtain ⟨rfl, t, ht, hht⟩ := hx
                  refine Ok.ret ⟨rfl, no fun hqv => ?_⟩
                  have hin := (hts.mem t).1 ht
                  have hb := In.bd h1 hs hn hin
                  obtain ⟨k, k0, k1, h⟩ := (hh t hb.1 (by omega)).1 hht
                  have hk := (hq k k0 k1).1
                  exact hqv.2 k k0 k1 ((Meet.share h1 hs hk.1 hn hk.2.1).2 ⟨t, hin, h⟩)
            · refine Ok.bindE (x := true) (by rw [if_neg (by simp), (firm_b h1 hs hn).f hf]; rfl) ?_
              rw [if_pos rfl]
              exact Ok.ret ⟨rfl, no fun h => hf h.1.2.2⟩
          · refine Ok.bindE (x := true) (by rw [if_neg (by simp), (on_b h1 hs).f hn]; rfl) (Ok.bindE (x := true) (by rw [if_pos rfl]) ?_)
            rw [if_pos rfl]
            exact Ok.ret ⟨rfl, no fun h => hn h.1.2.1⟩
        · rw [(form_b _).f hs, bsome]
          refine Ok.bindE (x := true) (by rw [if_pos (by rfl)]) (Ok.bindE (x := true) (by rw [if_pos rfl]) ?_)
          rw [if_pos rfl]
          exact Ok.ret ⟨rfl, no fun h => hs h.1.1⟩
      · intro x hx
        cases x with
        | go _ => exact Ok.ret ⟨fun _ => fin.1 hx, fun _ => rfl⟩
        | up r => exact Ok.ret ⟨fun e => (by rw [hx.1] at e; cases e), fun h => absurd (fin.2 h) hx.2⟩
    · refine Ok.bindE (x := true) (by rw [if_neg (by omega), (rising_b hl).f h3]; rfl) ?_
      rw [if_pos rfl]
      exact Ok.ret ⟨fun e => (by cases e), fun h => absurd h.ris h3⟩
  · refine Ok.bindE (x := true) (by rw [if_pos (by omega)]) ?_
    rw [if_pos rfl]
    exact Ok.ret ⟨fun e => (by cases e), fun h => absurd h.len h2⟩
end Go.Proofs.YthdbofgcckjopaaGreat
set_option linter.unusedVariables false
set_option linter.unusedSimpArgs false
namespace Go.Proofs.YthdbofgcckjopaaGreat
open Go.Vg
/-- So many IDs are less. -/
def Cut (l : List Bld) (id i : Int) : Prop := (0 ≤ i ∧ i ≤ l.length) ∧ (∀ j : Int, 0 ≤ j → j < i → (gi l j).id < id) ∧ ∀ j : Int, i ≤ j → j < l.length → id ≤ (gi l j).id
/-- What one more makes of buildings. -/
def AddR (g : Grd) (l : List Bld) (b : Bld) (r : List Bld × Int) : Prop :=
  (¬ SOk b ∧ r = ([], 1)) ∨ (SOk b ∧ ¬ NOk g b ∧ r = ([], 3)) ∨ (SOk b ∧ NOk g b ∧ (∃ i : Int, 0 ≤ i ∧ i < l.length ∧ ((gi l i).id = b.id ∨ Meet (gi l i) b)) ∧ r = ([], 12)) ∨
  (SOk b ∧ NOk g b ∧ (¬ ∃ i : Int, 0 ≤ i ∧ i < l.length ∧ ((gi l i).id = b.id ∨ Meet (gi l i) b)) ∧ ((¬ Fm g b ∧ r = ([], 5)) ∨ (Fm g b ∧ 256 ≤ (l.length : Int) ∧ r = ([], 4)) ∨ (Fm g b ∧ (l.length : Int) < 256 ∧ ∃ i, Cut l b.id i ∧ r = (l.take i.toNat ++ [b] ++ l.drop i.toNat, 0))))
end Go.Proofs.YthdbofgcckjopaaGreat
set_option linter.unusedVariables false
set_option linter.unusedSimpArgs false
namespace Go.Proofs.YthdbofgcckjopaaGreat
open Go.Vg
/-- How many tiles the first so many have together. -/
def ar (l : List Bld) (i : Int) : Int := ((l.take i.toNat).map fun b => b.w * b.h).sum
theorem ar_zero (l : List Bld) : ar l 0 = 0 := by simp [ar]
theorem ar_step {l : List Bld} {i : Int} (h : 0 ≤ i ∧ i < l.length) : ar l (i + 1) = ar l i + (gi l i).w * (gi l i).h := by
  unfold ar
  rw [take_nextV h, List.map_append, List.sum_append]
  simp
theorem count_si {c : List Bool} {i : Int} (h : 0 ≤ i ∧ i < c.length) (hf : ¬ gi c i = true) : ((si c i true).count true : Int) = c.count true + 1 := by
  unfold si
  have hl : i.toNat < c.length := by omega
  rw [List.count_set hl]
  have : c[i.toNat] = false := by
    have e := gi_get h
    rw [List.getElem?_eq_getElem hl] at e
    have e2 := Option.some.inj e
    cases hc : gi c i with
    | true => exact absurd hc hf
    | false => rw [← hc]; exact e2
  rw [this]
  simp
def CovR (g : Grd) (l : List Bld) (c : List Bool) : Prop := c.length = g.tiles.length ∧ ∀ t : Int, 0 ≤ t → t < g.tiles.length → (gi c t = true ↔ ∃ i : Int, 0 ≤ i ∧ i < l.length ∧ In g (gi l i) t)
theorem cover_b {g : Grd} {l : List Bld} (hg : GOk g) (hm : MOk g l) : Ok (build_Cover g l) fun c => CovR g l c ∧ (c.count true : Int) = ar l l.length := by
  have ha := hg.area
  have hgl := hg.2.2.1
  have hlen := hm.len
  unfold build_Cover
  rw [if_pos (by omega)]
  refine Ok.bind (R := fun c => CovR g l c ∧ (c.count true : Int) = ar l l.length) (Ok.loop (fun z : Int × List Bool => (0 ≤ z.1 ∧ z.1 ≤ l.length) ∧ z.2.length = g.tiles.length ∧ (∀ t : Int, 0 ≤ t → t < g.tiles.length → (gi z.2 t = true ↔ ∃ i : Int, 0 ≤ i ∧ i < z.1 ∧ In g (gi l i) t)) ∧ (z.2.count true : Int) = ar l z.1) (fun z => (l.length - z.1).toNat)
    ⟨by simp, by simp, fun t t0 t1 => ?_, ?_⟩ (by unfold FUEL; simp; omega) ?_) (fun c hc => Ok.ret hc)
  · show gi (List.replicate (g.tiles.length : Int).toNat false) t = true ↔ ∃ i : Int, 0 ≤ i ∧ i < 0 ∧ _
    rw [gi_replicate ⟨t0, by omega⟩]
    exact ⟨fun e => (by cases e), fun ⟨i, i0, i1, _⟩ => (by omega)⟩
  · show ((List.replicate (g.tiles.length : Int).toNat false).count true : Int) = ar l 0
    rw [ar_zero, List.count_replicate]; simp
  · rintro ⟨v, c⟩ ⟨⟨v0, v1⟩, hl, hc, hn⟩
    dsimp only at v0 v1 hl hc hn ⊢
    refine Ok.ite (fun hlt => ?_) (fun hlt => Ok.ret ?_)
    · refine Ok.gd ⟨v0, hlt⟩ ?_
      have hv := hm.each v v0 hlt
      refine Ok.bind (tiles_b hg hv.1 hv.2.1) fun ts hts => ?_
      have htl := hts.len
      have hwh := mul_bd (a := (gi l v).w) (b := (gi l v).h) (A := 4) (B := 4) (by have := hv.1.2.2.1; omega) (by have := hv.1.2.2.2; omega)
      refine Ok.bind (R := fun c' => c'.length = g.tiles.length ∧ (∀ t : Int, 0 ≤ t → t < g.tiles.length → (gi c' t = true ↔ (gi c t = true ∨ t ∈ ts))) ∧ (c'.count true : Int) = c.count true + ts.length)
        (Ok.loop (fun z : Int × List Bool => (0 ≤ z.1 ∧ z.1 ≤ ts.length) ∧ z.2.length = g.tiles.length ∧ (∀ t : Int, 0 ≤ t → t < g.tiles.length → (gi z.2 t = true ↔ (gi c t = true ∨ ∃ k : Int, 0 ≤ k ∧ k < z.1 ∧ gi ts k = t))) ∧ (z.2.count true : Int) = c.count true + z.1) (fun z => (ts.length - z.1).toNat)
        ⟨by simp, hl, fun t t0 t1 => ⟨fun h => .inl h, fun h => h.elim id fun ⟨k, k0, k1, _⟩ => (by have : k < 0 := k1; omega)⟩, by simp⟩ (by unfold FUEL; simp; omega) ?_) ?_
      · rintro ⟨k, c2⟩ ⟨⟨k0, k1⟩, hl2, hc2, hn2⟩
        dsimp only at k0 k1 hl2 hc2 hn2 ⊢
        refine Ok.ite (fun hk => ?_) (fun hk => Ok.ret ?_)
        · have hmem : gi ts k ∈ ts := gi_mem ⟨k0, hk⟩
          have hin := (hts.mem _).1 hmem
          have hb := In.bd hg hv.1 hv.2.1 hin
          have hfree : ¬ gi c2 (gi ts k) = true := fun h => by
            rcases (hc2 _ hb.1 (by omega)).1 h with h | ⟨j, j0, j1, e⟩
            · obtain ⟨i, i0, i1, h⟩ := (hc _ hb.1 (by omega)).1 h
              have hi := hm.each i i0 (by omega)
              exact hm.apart v i i0 i1 hlt ((Meet.share hg hv.1 hi.1 hv.2.1 hi.2.1).2 ⟨_, hin, h⟩)
            · obtain ⟨q1, e1⟩ := List.getElem_of_getElem? (gi_get (xs := ts) (j := j) ⟨j0, by omega⟩)
              obtain ⟨q2, e2⟩ := List.getElem_of_getElem? (gi_get (xs := ts) (j := k) ⟨k0, hk⟩)
              have := (List.getElem_inj hts.nd).1 (e1.trans (e.trans e2.symm))
              omega
          refine Ok.gd ⟨k0, hk⟩ (Ok.gd (by omega) (Ok.gd (by unfold I64; omega) (Ok.ret ⟨⟨by show 0 ≤ k + 1 ∧ k + 1 ≤ _; omega, by show (si c2 _ _).length = _; rw [len_si]; exact hl2, fun t t0 t1 => ?_, ?_⟩, by show ((ts.length : Int) - (k + 1)).toNat < _; omega⟩)))
          · show gi (si c2 (gi ts k) true) t = true ↔ _ ∨ ∃ j : Int, 0 ≤ j ∧ j < k + 1 ∧ _
            by_cases htk : gi ts k = t
            · subst htk
              rw [gi_si_self ⟨hb.1, by omega⟩]
              exact ⟨fun _ => .inr ⟨k, k0, by omega, rfl⟩, fun _ => rfl⟩
            · rw [gi_si_ne hb.1 t0 htk, hc2 t t0 t1]
              constructor
              · rintro (h | ⟨j, j0, j1, e⟩)
                · exact .inl h
                · exact .inr ⟨j, j0, by omega, e⟩
              · rintro (h | ⟨j, j0, j1, e⟩)
                · exact .inl h
                · refine .inr ⟨j, j0, ?_, e⟩
                  have : j ≠ k := fun h => htk (h ▸ e)
                  omega
          · show ((si c2 (gi ts k) true).count true : Int) = _ + (k + 1)
            rw [count_si ⟨hb.1, by omega⟩ hfree]; omega
        · refine ⟨hl2, fun t t0 t1 => ?_, by omega⟩
          rw [hc2 t t0 t1]
          constructor
          · rintro (h | ⟨j, j0, j1, e⟩)
            · exact .inl h
            · exact .inr (e ▸ gi_mem ⟨j0, by omega⟩)
          · rintro (h | h)
            · exact .inl h
            · obtain ⟨j, j0, j1, e⟩ := gi_mem2.1 h
              exact .inr ⟨j, j0, by omega, e⟩
      · rintro c' ⟨e1, e2, e3⟩
        refine Ok.gd (by unfold I64; omega) (Ok.ret ⟨⟨by show 0 ≤ v + 1 ∧ v + 1 ≤ _; omega, e1, fun t t0 t1 => ?_, ?_⟩, by show ((l.length : Int) - (v + 1)).toNat < _; omega⟩)
        · show gi c' t = true ↔ ∃ i : Int, 0 ≤ i ∧ i < v + 1 ∧ _
          rw [e2 t t0 t1, hc t t0 t1, hts.mem]
          constructor
          · rintro (⟨i, i0, i1, h⟩ | h)
            · exact ⟨i, i0, by omega, h⟩
            · exact ⟨v, v0, by omega, h⟩
          · rintro ⟨i, i0, i1, h⟩
            by_cases hi : i = v
            · subst hi; exact .inr h
            · exact .inl ⟨i, i0, by omega, h⟩
        · show (c'.count true : Int) = ar l (v + 1)
          rw [ar_step ⟨v0, hlt⟩, e3, hn, htl]
    · have hvl : v = l.length := by omega
      subst hvl
      exact ⟨⟨hl, hc⟩, hn⟩
end Go.Proofs.YthdbofgcckjopaaGreat
set_option linter.unusedVariables false
set_option linter.unusedSimpArgs false
namespace Go.Proofs.YthdbofgcckjopaaGreat
open Go.Vg
theorem AddR.len {g : Grd} {l : List Bld} {b : Bld} {r : List Bld × Int} (h : AddR g l b r) : r.1.length ≤ l.length + 1 := by
  rcases h with ⟨_, rfl⟩ | ⟨_, _, rfl⟩ | ⟨_, _, _, rfl⟩ | ⟨_, _, _, ⟨_, rfl⟩ | ⟨_, _, rfl⟩ | ⟨_, _, i, _, rfl⟩⟩ <;> simp
  omega
end Go.Proofs.YthdbofgcckjopaaGreat
set_option linter.unusedVariables false
set_option linter.unusedSimpArgs false
namespace Go.Proofs.YthdbofgcckjopaaGreat
open Go.Vg
def pr (c t : Int) : Int := gi [2, 1, 3, 5, 0, 0, 2, 1, 6, 0, 0, 0, 2, 1, 0, 3, 2, 0] (c * 6 + t)
theorem price_p {c t : Int} (hc : 0 ≤ c ∧ c ≤ 2) (ht : 0 ≤ t ∧ t ≤ 5) : kind_Price c t = some (pr c t) := by
  obtain ⟨a, ha⟩ : ∃ a : Fin 3, ((a.val : Nat) : Int) = c := ⟨⟨c.toNat, by omega⟩, by simp; omega⟩
  obtain ⟨b, hb⟩ : ∃ b : Fin 6, ((b.val : Nat) : Int) = t := ⟨⟨t.toNat, by omega⟩, by simp; omega⟩
  subst ha; subst hb
  revert a b
  decide +kernel
theorem pr_bd {c t : Int} (hc : 0 ≤ c ∧ c ≤ 2) (ht : 0 ≤ t ∧ t ≤ 5) : 0 ≤ pr c t ∧ pr c t ≤ 6 := by
  obtain ⟨a, ha⟩ : ∃ a : Fin 3, ((a.val : Nat) : Int) = c := ⟨⟨c.toNat, by omega⟩, by simp; omega⟩
  obtain ⟨b, hb⟩ : ∃ b : Fin 6, ((b.val : Nat) : Int) = t := ⟨⟨t.toNat, by omega⟩, by simp; omega⟩
  subst ha; subst hb
  revert a b
  decide +kernel
/-- Is there such a place? -/
def On (g : Grd) (x y : Int) : Prop := (0 ≤ x ∧ x < g.w) ∧ (0 ≤ y ∧ y < g.h)
instance (g : Grd) (x y : Int) : Decidable (On g x y) := by unfold On; exact inferInstance
theorem on_p (g : Grd) (x y : Int) : ground_On g x y = some (decide (On g x y)) := by
  unfold ground_On
  congr 1
  rw [decide_eq_decide]
  unfold On; omega
theorem On.bd {g : Grd} {x y : Int} (hg : GOk g) (h : On g x y) : (0 ≤ x + g.w * y ∧ x + g.w * y < g.w * g.h) ∧ (0 ≤ g.w * y ∧ g.w * y ≤ 16384) := by
  unfold On at h
  have h1 := hg.1
  have ha := hg.area
  have := Int.mul_nonneg (show 0 ≤ g.w by omega) (show 0 ≤ y by omega)
  have := Int.mul_le_mul_of_nonneg_left (show y ≤ g.h - 1 by omega) (show 0 ≤ g.w by omega)
  rw [Int.mul_sub] at this
  omega
theorem On.of {g : Grd} {t : Int} (hg : GOk g) (ht : 0 ≤ t ∧ t < g.w * g.h) : On g (t % g.w) (t / g.w) ∧ t % g.w + g.w * (t / g.w) = t := by
  have h1 := hg.1
  have hd := Int.emod_add_mul_ediv t g.w
  have h2 := Int.emod_nonneg t (show g.w ≠ 0 by omega)
  have h3 := Int.emod_lt_of_pos t (show 0 < g.w by omega)
  have h4 : 0 ≤ t / g.w := Int.ediv_nonneg ht.1 (by omega)
  have h5 : t / g.w < g.h := Int.ediv_lt_of_lt_mul (by omega) (by rw [Int.mul_comm]; exact ht.2)
  exact ⟨⟨⟨h2, h3⟩, h4, h5⟩, hd⟩
theorem On.xy {g : Grd} {x y : Int} (h : On g x y) : (x + g.w * y) / g.w = y ∧ (x + g.w * y) % g.w = x := xy_inj h.1
/-- The eight ways. -/
def DX (i : Int) : Int := gi [0, 1, 0, -1, 1, 1, -1, -1] i
def DY (i : Int) : Int := gi [-1, 0, 1, 0, -1, 1, 1, -1] i
theorem dd_bd {i : Int} (h : 0 ≤ i ∧ i < 8) : (-1 ≤ DX i ∧ DX i ≤ 1) ∧ (-1 ≤ DY i ∧ DY i ≤ 1) ∧ ¬ (DX i = 0 ∧ DY i = 0) := by
  obtain ⟨a, ha⟩ : ∃ a : Fin 8, ((a.val : Nat) : Int) = i := ⟨⟨i.toNat, by omega⟩, by simp; omega⟩
  subst ha
  revert a
  decide +kernel
theorem dd_of {dx dy : Int} (h1 : -1 ≤ dx ∧ dx ≤ 1) (h2 : -1 ≤ dy ∧ dy ≤ 1) (h : ¬ (dx = 0 ∧ dy = 0)) : ∃ i, (0 ≤ i ∧ i < 8) ∧ DX i = dx ∧ DY i = dy := by
  have hx : dx = -1 ∨ dx = 0 ∨ dx = 1 := by omega
  have hy : dy = -1 ∨ dy = 0 ∨ dy = 1 := by omega
  rcases hx with rfl | rfl | rfl <;> rcases hy with rfl | rfl | rfl
  · exact ⟨7, by omega, rfl, rfl⟩
  · exact ⟨3, by omega, rfl, rfl⟩
  · exact ⟨6, by omega, rfl, rfl⟩
  · exact ⟨0, by omega, rfl, rfl⟩
  · exact absurd ⟨rfl, rfl⟩ h
  · exact ⟨2, by omega, rfl, rfl⟩
  · exact ⟨4, by omega, rfl, rfl⟩
  · exact ⟨1, by omega, rfl, rfl⟩
  · exact ⟨5, by omega, rfl, rfl⟩
/-- The tile one comes to by a way; -1: there is none. -/
def nb (g : Grd) (t i : Int) : Int := if On g (t % g.w + DX i) (t / g.w + DY i) then t % g.w + DX i + g.w * (t / g.w + DY i) else -1
def Nbs (g : Grd) (t : Int) (l : List Int) : Prop := l.length = 8 ∧ ∀ i : Int, 0 ≤ i → i < 8 → gi l i = nb g t i
theorem ways_p : ground_Ways = some [0, -1, 1, 0, 0, 1, -1, 0, 1, -1, 1, 1, -1, 1, -1, -1] := by decide +kernel
theorem ways_gi {i : Int} (h : 0 ≤ i ∧ i < 8) : gi [0, -1, 1, 0, 0, 1, -1, 0, 1, -1, 1, 1, -1, 1, -1, -1] (2 * i) = DX i ∧ gi [0, -1, 1, 0, 0, 1, -1, 0, 1, -1, 1, 1, -1, 1, -1, -1] (2 * i + 1) = DY i := by
  obtain ⟨a, ha⟩ : ∃ a : Fin 8, ((a.val : Nat) : Int) = i := ⟨⟨i.toNat, by omega⟩, by simp; omega⟩
  subst ha
  revert a
  decide +kernel
theorem beside_b {g : Grd} {t : Int} (hg : GOk g) (ht : 0 ≤ t ∧ t < g.w * g.h) : Ok (ground_Beside g t) (Nbs g t) := by
  have ha := hg.area
  have h1 := hg.1
  have h2 := hg.2.1
  have ho := (On.of hg ht).1
  have ho' := ho
  obtain ⟨o1, o2⟩ := ho'
  unfold ground_Beside
  rw [if_pos (by omega), if_pos (by omega), ways_p, bsome]
  refine Ok.bind (R := Nbs g t) (Ok.loop (fun z : Int × List Int => (0 ≤ z.1 ∧ z.1 ≤ 8) ∧ z.2.length = 8 ∧ ∀ i : Int, 0 ≤ i → i < z.1 → gi z.2 i = nb g t i) (fun z => (8 - z.1).toNat) ⟨by simp, by simp, fun i i0 i1 => (by have : i < 0 := i1; omega)⟩ (by unfold FUEL; simp) ?_) (fun x hx => ?_)
  · rintro ⟨v, l⟩ ⟨⟨v0, v1⟩, hl, hq⟩
    dsimp only at v0 v1 hl hq ⊢
    refine Ok.ite (fun hlt => ?_) (fun hlt => Ok.ret ⟨hl, fun i i0 i1 => hq i i0 (by omega)⟩)
    have hd := dd_bd ⟨v0, hlt⟩
    have hw := ways_gi ⟨v0, hlt⟩
    rw [hw.1, hw.2]
    have step : ∀ m : List Int, m.length = 8 → gi m v = nb g t v → (∀ i : Int, 0 ≤ i → i < 8 → i ≠ v → gi m i = gi l i) → ((0 ≤ v + 1 ∧ v + 1 ≤ 8) ∧ m.length = 8 ∧ ∀ i : Int, 0 ≤ i → i < v + 1 → gi m i = nb g t i) ∧ (8 - (v + 1)).toNat < (8 - v).toNat := fun m hm h1 h2 => by
      refine ⟨⟨by omega, hm, fun i i0 i1 => ?_⟩, by omega⟩
      by_cases hi : i = v
      · subst hi; exact h1
      · rw [h2 i i0 (by omega) hi]; exact hq i i0 (by omega)
    refine Ok.gd ⟨v0, hlt, rfl⟩ (Ok.gd ⟨v0, hlt, hl⟩ (Ok.gd (by unfold I64; omega) (Ok.gd (by unfold I64; omega) ?_)))
    rw [on_p, bsome]
    by_cases hon : On g (t % g.w + DX v) (t / g.w + DY v)
    · have hb := hon.bd hg
      rw [decide_eq_true hon, if_pos rfl]
      refine Ok.gd (by unfold I64; omega) (Ok.gd (by unfold I64; omega) (Ok.gd (by unfold I64; omega) (Ok.gd (by unfold I64; omega) (Ok.gd ⟨v0, hlt, by rw [len_si]; exact hl⟩ (Ok.gd (by unfold I64; omega) (Ok.ret (step _ (by rw [len_si, len_si]; exact hl) ?_ (fun i i0 i1 hne => ?_))))))))
      · rw [gi_si_self ⟨v0, by rw [len_si]; omega⟩]; unfold nb; rw [if_pos hon]
      · rw [gi_si_ne v0 i0 (Ne.symm hne), gi_si_ne v0 i0 (Ne.symm hne)]
    · rw [decide_eq_false hon, if_neg (by simp)]
      refine Ok.gd (by unfold I64; omega) (Ok.ret (step _ (by rw [len_si]; exact hl) ?_ (fun i i0 i1 hne => ?_)))
      · rw [gi_si_self ⟨v0, by omega⟩]; unfold nb; rw [if_neg hon]
      · rw [gi_si_ne v0 i0 (Ne.symm hne)]
  · have hl := hx.1
    rw [if_pos hl, if_pos ⟨hl, hl⟩, if_pos hl]
    exact Ok.ret hx
/-- A value of a table by place; 0 where there is none. -/
def KP (g : Grd) (k : List Int) (x y : Int) : Int := if On g x y then gi k (x + g.w * y) else 0
theorem KP.on {g : Grd} {k : List Int} {x y : Int} (h : On g x y) : KP g k x y = gi k (x + g.w * y) := by unfold KP; rw [if_pos h]
theorem KP.off {g : Grd} {k : List Int} {x y : Int} (h : ¬ On g x y) : KP g k x y = 0 := by unfold KP; rw [if_neg h]
/-- What one pass does with one tile. -/
structure Pass (g : Grd) (k k' : List Int) (t : Int) (ws : List Pr2) (n : Int) : Prop where
  len : k'.length = k.length
  rest : ∀ j : Int, 0 ≤ j → j ≠ t → gi k' j = gi k j
  le : gi k' t ≤ gi k t
  nn : 0 ≤ gi k' t
  way : ∀ i : Int, 0 ≤ i → i < n → gi k' t ≤ KP g k (t % g.w + (gi ws i).a) (t / g.w + (gi ws i).b) + 1
  why : gi k' t = gi k t ∨ ∃ i : Int, (0 ≤ i ∧ i < n) ∧ gi k' t = KP g k (t % g.w + (gi ws i).a) (t / g.w + (gi ws i).b) + 1
theorem pass_b {g : Grd} {k : List Int} {t : Int} {ws : List Pr2} (hg : GOk g) (hk : (k.length : Int) = g.w * g.h) (ht : 0 ≤ t ∧ t < g.w * g.h) (hws : ∀ w ∈ ws, (-1 ≤ w.a ∧ w.a ≤ 1) ∧ (-1 ≤ w.b ∧ w.b ≤ 1) ∧ ¬ (w.a = 0 ∧ w.b = 0)) (hwl : ws.length ≤ 100)
    (hb : ∀ j : Int, 0 ≤ j → j < k.length → 0 ≤ gi k j ∧ gi k j ≤ 128) : Ok (clear_pass g k t ws) fun k' => Pass g k k' t ws ws.length := by
  have ha := hg.area
  have h1 := hg.1
  have h2 := hg.2.1
  obtain ⟨ho, hte⟩ := On.of hg ht
  have ho' := ho
  obtain ⟨o1, o2⟩ := ho'
  unfold clear_pass
  rw [if_pos (by omega), if_pos (by omega)]
  refine Ok.bind (R := fun k' => Pass g k k' t ws ws.length) (Ok.loop (fun z : Int × List Int => (0 ≤ z.1 ∧ z.1 ≤ ws.length) ∧ Pass g k z.2 t ws z.1) (fun z => (ws.length - z.1).toNat)
    ⟨by simp, rfl, fun _ _ _ => rfl, Int.le_refl _, (hb t ht.1 (by omega)).1, fun i i0 i1 => (by have : i < 0 := i1; omega), .inl rfl⟩ (by unfold FUEL; simp; omega) ?_) (fun x hx => Ok.ret hx)
  rintro ⟨v, l⟩ ⟨⟨v0, v1⟩, hp⟩
  dsimp only at v0 v1 hp ⊢
  refine Ok.ite (fun hlt => ?_) (fun hlt => Ok.ret ((show v = ws.length by omega) ▸ hp))
  refine Ok.gd ⟨v0, hlt⟩ ?_
  obtain ⟨w, hw⟩ : ∃ w, w = gi ws v := ⟨_, rfl⟩
  have hww := hws w (hw ▸ gi_mem ⟨v0, hlt⟩)
  rw [← hw]
  refine Ok.gd (by unfold I64; omega) (Ok.gd (by unfold I64; omega) ?_)
  rw [on_p, bsome]
  refine Ok.bindE (x := KP g k (t % g.w + w.a) (t / g.w + w.b)) ?_ ?_
  · by_cases hon : On g (t % g.w + w.a) (t / g.w + w.b)
    · have hbd := hon.bd hg
      rw [decide_eq_true hon, if_pos rfl, if_pos (by unfold I64; omega), if_pos (by unfold I64; omega), if_pos (by unfold I64; omega), if_pos (by unfold I64; omega), if_pos (by omega), KP.on hon]
      congr 1
      refine hp.rest _ hbd.1.1 fun e => ?_
      have e1 := hon.xy
      rw [e] at e1
      omega
    · rw [decide_eq_false hon, if_neg (by simp), KP.off hon]
  · obtain ⟨q, hq⟩ : ∃ q, q = KP g k (t % g.w + w.a) (t / g.w + w.b) := ⟨_, rfl⟩
    have hqb : 0 ≤ q ∧ q ≤ 128 := by
      rw [hq]
      by_cases hon : On g (t % g.w + w.a) (t / g.w + w.b)
      · rw [KP.on hon]; have := hon.bd hg; exact hb _ this.1.1 (by omega)
      · rw [KP.off hon]; omega
    rw [← hq]
    have hl := hp.len
    refine Ok.gd (by omega) (Ok.gd (by unfold I64; omega) (Ok.gd (by omega) (Ok.gd (by unfold I64; omega) (Ok.ret ⟨⟨by show 0 ≤ v + 1 ∧ v + 1 ≤ _; omega, ?_⟩, by show ((ws.length : Int) - (v + 1)).toNat < _; omega⟩))))
    have hs : gi (si l t (min (gi l t) (q + 1))) t = min (gi l t) (q + 1) := gi_si_self ⟨ht.1, by omega⟩
    have hle := hp.le
    have hnn := hp.nn
    refine ⟨by show (si l t _).length = _; rw [len_si]; exact hl, fun j j0 hj => ?_, ?_, ?_, fun i i0 i1 => ?_, ?_⟩
    · show gi (si l t _) j = _
      rw [gi_si_ne ht.1 j0 (Ne.symm hj)]; exact hp.rest j j0 hj
    · show gi (si l t _) t ≤ _; rw [hs]; omega
    · show 0 ≤ gi (si l t _) t; rw [hs]; omega
    · show gi (si l t _) t ≤ _
      rw [hs]
      by_cases hi : i = v
      · subst hi; rw [← hw, ← hq]; omega
      · have := hp.way i i0 (by have : i < v + 1 := i1; omega); omega
    · show gi (si l t _) t = _ ∨ ∃ i : Int, (0 ≤ i ∧ i < v + 1) ∧ gi (si l t _) t = _
      rw [hs]
      by_cases hm : gi l t ≤ q + 1
      · rw [Int.min_eq_left hm]
        rcases hp.why with h | ⟨i, hi, h⟩
        · exact .inl h
        · exact .inr ⟨i, by omega, h⟩
      · rw [Int.min_eq_right (by omega)]
        exact .inr ⟨v, by omega, by rw [← hw, ← hq]⟩
end Go.Proofs.YthdbofgcckjopaaGreat
set_option linter.unusedVariables false
set_option linter.unusedSimpArgs false
namespace Go.Proofs.YthdbofgcckjopaaGreat
open Go.Vg
/-- Which tiles are open. -/
def OpR (g : Grd) (l : List Bld) (c : Int) (o : List Bool) : Prop := o.length = g.tiles.length ∧ ∀ t : Int, 0 ≤ t → t < g.tiles.length → (gi o t = true ↔ (¬ ∃ i : Int, 0 ≤ i ∧ i < l.length ∧ In g (gi l i) t) ∧ 0 < pr c ((gi g.tiles t).toNat : Int))
theorem tilesO_b {g : Grd} {l : List Bld} {c : Int} (hg : GOk g) (hm : MOk g l) (hc : 0 ≤ c ∧ c ≤ 2) : Ok (clear_Tiles g l c) (OpR g l c) := by
  have ha := hg.area
  have hgl := hg.2.2.1
  have hgt := hg.2.2.2
  unfold clear_Tiles
  refine Ok.bind (cover_b hg hm) fun x hx => ?_
  obtain ⟨⟨hxl, hx⟩, _⟩ := hx
  refine Ok.bind (R := OpR g l c) (Ok.loop (fun z : Int × List Bool => (0 ≤ z.1 ∧ z.1 ≤ x.length) ∧ z.2.length = x.length ∧ (∀ t : Int, 0 ≤ t → t < z.1 → (gi z.2 t = true ↔ (¬ ∃ i : Int, 0 ≤ i ∧ i < l.length ∧ In g (gi l i) t) ∧ 0 < pr c ((gi g.tiles t).toNat : Int))) ∧ ∀ t : Int, z.1 ≤ t → gi z.2 t = gi x t) (fun z => (x.length - z.1).toNat)
    ⟨by simp, rfl, fun t t0 t1 => (by have : t < 0 := t1; omega), fun _ _ => rfl⟩ (by unfold FUEL; simp; omega) ?_) (fun y hy => Ok.ret hy)
  rintro ⟨v, o⟩ ⟨⟨v0, v1⟩, hl, h1, h2⟩
  dsimp only at v0 v1 hl h1 h2 ⊢
  refine Ok.ite (fun hlt => ?_) (fun hlt => Ok.ret ⟨by omega, fun t t0 t1 => h1 t t0 (by omega)⟩)
  have hov := h2 v (Int.le_refl _)
  have hxv := hx v v0 (by omega)
  have ht5 := hgt v v0 (by omega)
  refine Ok.gd ⟨v0, hlt⟩ ?_
  refine Ok.bind (R := fun b => (b = true ↔ (¬ ∃ i : Int, 0 ≤ i ∧ i < l.length ∧ In g (gi l i) v) ∧ 0 < pr c ((gi g.tiles v).toNat : Int))) (Ok.ite (fun hf => Ok.gd (by omega) ?_) (fun hf => Ok.ret ⟨fun e => (by cases e), fun e => ?_⟩)) (fun b hb => ?_)
  · rw [price_p hc ⟨by omega, ht5⟩, bsome]
    refine Ok.ret ?_
    rw [decide_eq_true_iff]
    refine ⟨fun h => ⟨fun h2 => ?_, h⟩, fun h => h.2⟩
    rw [hov, hxv.2 h2] at hf
    cases hf
  · refine absurd ?_ hf
    have : ¬ gi o v = true := fun h => e.1 (hxv.1 (hov ▸ h))
    cases ho : gi o v with
    | true => exact absurd ho this
    | false => rfl
  · refine Ok.gd ⟨v0, hlt⟩ (Ok.gd (by unfold I64; omega) (Ok.ret ⟨⟨by show 0 ≤ v + 1 ∧ v + 1 ≤ _; omega, by show (si o _ _).length = _; rw [len_si]; exact hl, fun t t0 t1 => ?_, fun t t0 => ?_⟩, by show ((x.length : Int) - (v + 1)).toNat < _; omega⟩))
    · show gi (si o v b) t = true ↔ _
      by_cases htv : t = v
      · subst htv; rw [gi_si_self ⟨v0, by omega⟩]; exact hb
      · rw [gi_si_ne v0 t0 (Ne.symm htv)]; exact h1 t t0 (by have : t < v + 1 := t1; omega)
    · show gi (si o v b) t = _
      rw [gi_si_ne v0 (by have : v + 1 ≤ t := t0; omega) (by have : v + 1 ≤ t := t0; omega)]; exact h2 t (by have : v + 1 ≤ t := t0; omega)
/-- How much room each tile has, told by the tiles beside. -/
structure KS (g : Grd) (o : List Bool) (k : List Int) : Prop where
  len : (k.length : Int) = g.w * g.h
  bd : ∀ j : Int, 0 ≤ j → j < g.w * g.h → 0 ≤ gi k j ∧ gi k j ≤ 127
  zero : ∀ x y, On g x y → ¬ gi o (x + g.w * y) = true → KP g k x y = 0
  lip : ∀ x y dx dy, On g x y → (-1 ≤ dx ∧ dx ≤ 1) → (-1 ≤ dy ∧ dy ≤ 1) → KP g k x y ≤ KP g k (x + dx) (y + dy) + 1
  sup : ∀ x y, On g x y → gi o (x + g.w * y) = true → ∃ dx dy, (-1 ≤ dx ∧ dx ≤ 1) ∧ (-1 ≤ dy ∧ dy ≤ 1) ∧ KP g k x y = KP g k (x + dx) (y + dy) + 1
def F1 (a b : Int) : Prop := (a = -1 ∧ b = 0) ∨ (a = -1 ∧ b = -1) ∨ (a = 0 ∧ b = -1) ∨ (a = 1 ∧ b = -1)
def F2 (a b : Int) : Prop := (a = 1 ∧ b = 0) ∨ (a = 1 ∧ b = 1) ∨ (a = 0 ∧ b = 1) ∨ (a = -1 ∧ b = 1)
/-- What both passes leave is at most one more than beside, all about. -/
theorem chamfer {O : Int → Int → Prop} [∀ x y, Decidable (O x y)] {k k1 : Int → Int → Int} (hoff : ∀ x y, ¬ O x y → k x y = 0 ∧ k1 x y = 0) (hnn : ∀ x y, 0 ≤ k x y)
    (hc : ∀ x y a b, O x y → F1 a b → k1 x y ≤ k1 (x + a) (y + b) + 1) (hf : ∀ x y a b, O x y → F2 a b → k x y ≤ k (x + a) (y + b) + 1) (hle : ∀ x y, O x y → k x y ≤ k1 x y)
    (hor : ∀ x y, O x y → k x y = k1 x y ∨ ∃ a b, F2 a b ∧ k x y = k (x + a) (y + b) + 1) : ∀ (n : Nat) x y a b, O x y → F1 a b → k (x + a) (y + b) ≤ n → k x y ≤ k (x + a) (y + b) + 1 := by
  intro n
  induction n with
  | zero =>
    intro x y a b ho h1 hn
    by_cases hu : O (x + a) (y + b)
    · rcases hor _ _ hu with h | ⟨c, d, _, h⟩
      · have := hle x y ho
        have := hc x y a b ho h1
        omega
      · have := hnn (x + a + c) (y + b + d); omega
    · have h2 := hoff _ _ hu
      have := hle x y ho
      have := hc x y a b ho h1
      omega
  | succ n ih =>
    intro x y a b ho h1 hn
    by_cases hu : O (x + a) (y + b)
    · rcases hor _ _ hu with h | ⟨c, d, h2, h⟩
      · have := hle x y ho
        have := hc x y a b ho h1
        omega
      · obtain ⟨q, hq⟩ : ∃ q : Int → Int → Int, ∀ a b, k (x + a) (y + b) = q a b := ⟨fun a b => k (x + a) (y + b), fun _ _ => rfl⟩
        have e0 : k x y = q 0 0 := by rw [← hq]; simp
        have ev : k (x + a + c) (y + b + d) = q (a + c) (b + d) := by rw [← hq, Int.add_assoc, Int.add_assoc]
        have hF : ∀ c d, F2 c d → q 0 0 ≤ q c d + 1 := fun c d hcd => by have := hf x y c d ho hcd; rw [hq, e0] at this; exact this
        have hI : ∀ c d, F1 c d → q c d ≤ n → q 0 0 ≤ q c d + 1 := fun c d hcd hle => by have := ih x y c d ho hcd (by rw [hq]; exact hle); rw [hq, e0] at this; exact this
        have hF' : ∀ a b c d, F2 c d → q a b ≤ q (a + c) (b + d) + 1 := fun a b c d hcd => by
          by_cases hw : O (x + a) (y + b)
          · have := hf (x + a) (y + b) c d hw hcd
            rw [Int.add_assoc, Int.add_assoc, hq, hq] at this; exact this
          · have h3 := hoff _ _ hw
            have h4 := hnn (x + (a + c)) (y + (b + d))
            rw [hq] at h3 h4
            omega
        have hI' : ∀ a b c d, F1 c d → q (a + c) (b + d) ≤ n → q a b ≤ q (a + c) (b + d) + 1 := fun a b c d hcd hle => by
          by_cases hw : O (x + a) (y + b)
          · have := ih (x + a) (y + b) c d hw hcd (by rw [Int.add_assoc, Int.add_assoc, hq]; exact hle)
            rw [Int.add_assoc, Int.add_assoc, hq, hq] at this; exact this
          · have h3 := hoff _ _ hw
            have h4 := hnn (x + (a + c)) (y + (b + d))
            rw [hq] at h3 h4
            omega
        rw [hq, ev] at h
        rw [hq] at hn
        rw [hq, e0]
        have f1 : F2 1 0 := .inl ⟨rfl, rfl⟩
        have f2 : F2 1 1 := .inr (.inl ⟨rfl, rfl⟩)
        have f3 : F2 0 1 := .inr (.inr (.inl ⟨rfl, rfl⟩))
        have f4 : F2 (-1) 1 := .inr (.inr (.inr ⟨rfl, rfl⟩))
        have b1 : F1 (-1) 0 := .inl ⟨rfl, rfl⟩
        have b2 : F1 (-1) (-1) := .inr (.inl ⟨rfl, rfl⟩)
        have b3 : F1 0 (-1) := .inr (.inr (.inl ⟨rfl, rfl⟩))
        have b4 : F1 1 (-1) := .inr (.inr (.inr ⟨rfl, rfl⟩))
        rcases h1 with ⟨rfl, rfl⟩ | ⟨rfl, rfl⟩ | ⟨rfl, rfl⟩ | ⟨rfl, rfl⟩ <;> rcases h2 with ⟨rfl, rfl⟩ | ⟨rfl, rfl⟩ | ⟨rfl, rfl⟩ | ⟨rfl, rfl⟩ <;> simp only [Int.reduceNeg, Int.reduceAdd, Int.zero_add, Int.add_zero] at h hn ⊢
        · omega
        · have := hF 0 1 f3; omega
        · have := hF (-1) 1 f4; omega
        · have h5 := hF (-1) 1 f4
          have h6 := hI' (-1) 1 (-1) 0 b1
          simp only [Int.reduceNeg, Int.reduceAdd, Int.zero_add, Int.add_zero] at h6
          have := h6 (by omega); omega
        · have := hI 0 (-1) b3 (by omega); omega
        · omega
        · have := hI (-1) 0 b1 (by omega); omega
        · have h5 := hF (-1) 1 f4
          have h6 := hI' (-1) 1 (-1) (-1) b2
          simp only [Int.reduceNeg, Int.reduceAdd, Int.zero_add, Int.add_zero] at h6
          have := h6 (by omega); omega
        · have := hI 1 (-1) b4 (by omega); omega
        · have := hF 1 0 f1; omega
        · omega
        · have := hI (-1) 0 b1 (by omega); omega
        · have h5 := hF 1 0 f1
          have h6 := hI' 1 0 1 (-1) b4
          simp only [Int.reduceNeg, Int.reduceAdd, Int.zero_add, Int.add_zero] at h6
          have := h6 (by omega); omega
        · have h5 := hF 1 0 f1
          have h6 := hF' 1 0 1 0 f1
          simp only [Int.reduceNeg, Int.reduceAdd, Int.zero_add, Int.add_zero] at h6
          omega
        · have := hF 1 0 f1; omega
        · omega
    · have h2 := hoff _ _ hu
      have := hle x y ho
      have := hc x y a b ho h1
      omega
/-- Both passes' ways. -/
def W1 : List Pr2 := [⟨-1, 0⟩, ⟨-1, -1⟩, ⟨0, -1⟩, ⟨1, -1⟩]
def W2 : List Pr2 := [⟨1, 0⟩, ⟨1, 1⟩, ⟨0, 1⟩, ⟨-1, 1⟩]
theorem W1_at {a b : Int} (h : F1 a b) : ∃ i : Int, (0 ≤ i ∧ i < 4) ∧ (gi W1 i).a = a ∧ (gi W1 i).b = b := by
  rcases h with ⟨rfl, rfl⟩ | ⟨rfl, rfl⟩ | ⟨rfl, rfl⟩ | ⟨rfl, rfl⟩
  · exact ⟨0, by omega, rfl, rfl⟩
  · exact ⟨1, by omega, rfl, rfl⟩
  · exact ⟨2, by omega, rfl, rfl⟩
  · exact ⟨3, by omega, rfl, rfl⟩
theorem W2_at {a b : Int} (h : F2 a b) : ∃ i : Int, (0 ≤ i ∧ i < 4) ∧ (gi W2 i).a = a ∧ (gi W2 i).b = b := by
  rcases h with ⟨rfl, rfl⟩ | ⟨rfl, rfl⟩ | ⟨rfl, rfl⟩ | ⟨rfl, rfl⟩
  · exact ⟨0, by omega, rfl, rfl⟩
  · exact ⟨1, by omega, rfl, rfl⟩
  · exact ⟨2, by omega, rfl, rfl⟩
  · exact ⟨3, by omega, rfl, rfl⟩
theorem at_W1 {i : Int} (h : 0 ≤ i ∧ i < 4) : F1 (gi W1 i).a (gi W1 i).b := by
  have : i = 0 ∨ i = 1 ∨ i = 2 ∨ i = 3 := by omega
  rcases this with rfl | rfl | rfl | rfl
  · exact .inl ⟨rfl, rfl⟩
  · exact .inr (.inl ⟨rfl, rfl⟩)
  · exact .inr (.inr (.inl ⟨rfl, rfl⟩))
  · exact .inr (.inr (.inr ⟨rfl, rfl⟩))
theorem at_W2 {i : Int} (h : 0 ≤ i ∧ i < 4) : F2 (gi W2 i).a (gi W2 i).b := by
  have : i = 0 ∨ i = 1 ∨ i = 2 ∨ i = 3 := by omega
  rcases this with rfl | rfl | rfl | rfl
  · exact .inl ⟨rfl, rfl⟩
  · exact .inr (.inl ⟨rfl, rfl⟩)
  · exact .inr (.inr (.inl ⟨rfl, rfl⟩))
  · exact .inr (.inr (.inr ⟨rfl, rfl⟩))
theorem F1.bd {a b : Int} (h : F1 a b) : (-1 ≤ a ∧ a ≤ 1) ∧ (-1 ≤ b ∧ b ≤ 1) ∧ ¬ (a = 0 ∧ b = 0) := by unfold F1 at h; omega
theorem F2.bd {a b : Int} (h : F2 a b) : (-1 ≤ a ∧ a ≤ 1) ∧ (-1 ≤ b ∧ b ≤ 1) ∧ ¬ (a = 0 ∧ b = 0) := by unfold F2 at h; omega
theorem F1.lt {g : Grd} {x y a b : Int} (h : F1 a b) (ho : On g x y) (hw : 1 ≤ g.w) (hn : On g (x + a) (y + b)) : x + a + g.w * (y + b) < x + g.w * y := by
  obtain ⟨⟨x0, x1⟩, y0, y1⟩ := ho
  obtain ⟨⟨n0, n1⟩, n2, n3⟩ := hn
  rw [Int.mul_add]
  rcases h with ⟨rfl, rfl⟩ | ⟨rfl, rfl⟩ | ⟨rfl, rfl⟩ | ⟨rfl, rfl⟩
  · rw [Int.mul_zero]; omega
  · rw [show g.w * (-1) = -g.w by omega]; omega
  · rw [show g.w * (-1) = -g.w by omega]; omega
  · rw [show g.w * (-1) = -g.w by omega]; omega
theorem F2.lt {g : Grd} {x y a b : Int} (h : F2 a b) (ho : On g x y) (hw : 1 ≤ g.w) (hn : On g (x + a) (y + b)) : x + g.w * y < x + a + g.w * (y + b) := by
  obtain ⟨⟨x0, x1⟩, y0, y1⟩ := ho
  obtain ⟨⟨n0, n1⟩, n2, n3⟩ := hn
  rw [Int.mul_add]
  rcases h with ⟨rfl, rfl⟩ | ⟨rfl, rfl⟩ | ⟨rfl, rfl⟩ | ⟨rfl, rfl⟩
  · rw [Int.mul_zero]; omega
  · rw [Int.mul_one]; omega
  · rw [Int.mul_one]; omega
  · rw [Int.mul_one]; omega
end Go.Proofs.YthdbofgcckjopaaGreat
set_option linter.unusedVariables false
set_option linter.unusedSimpArgs false
namespace Go.Proofs.YthdbofgcckjopaaGreat
open Go.Vg
/-- What always holds of a table of room while it is reckoned. -/
structure KI0 (g : Grd) (o : List Bool) (k : List Int) : Prop where
  len : (k.length : Int) = g.w * g.h
  bd : ∀ j : Int, 0 ≤ j → j < g.w * g.h → 0 ≤ gi k j ∧ gi k j ≤ 128
  zero : ∀ j : Int, 0 ≤ j → j < g.w * g.h → ¬ gi o j = true → gi k j = 0
  sup : ∀ x y, On g x y → gi o (x + g.w * y) = true → gi k (x + g.w * y) = 128 ∨ ∃ dx dy, (-1 ≤ dx ∧ dx ≤ 1) ∧ (-1 ≤ dy ∧ dy ≤ 1) ∧ KP g k (x + dx) (y + dy) + 1 ≤ gi k (x + g.w * y)
theorem KP.le {g : Grd} (hg : GOk g) {k k' : List Int} (h : ∀ j : Int, 0 ≤ j → j < g.w * g.h → gi k' j ≤ gi k j) (x y : Int) : KP g k' x y ≤ KP g k x y := by
  by_cases ho : On g x y
  · rw [KP.on ho, KP.on ho]; have := ho.bd hg; exact h _ this.1.1 this.1.2
  · rw [KP.off ho, KP.off ho]; exact Int.le_refl _
theorem KI0.pass {g : Grd} {o : List Bool} {k k' : List Int} {t : Int} {ws : List Pr2} (hg : GOk g) (h : KI0 g o k) (ht : 0 ≤ t ∧ t < g.w * g.h) (hp : Pass g k k' t ws ws.length)
    (hws : ∀ i : Int, 0 ≤ i → i < ws.length → (-1 ≤ (gi ws i).a ∧ (gi ws i).a ≤ 1) ∧ (-1 ≤ (gi ws i).b ∧ (gi ws i).b ≤ 1)) : KI0 g o k' := by
  have hle : ∀ j : Int, 0 ≤ j → j < g.w * g.h → gi k' j ≤ gi k j := fun j j0 j1 => by
    by_cases hj : j = t
    · subst hj; exact hp.le
    · rw [hp.rest j j0 hj]; exact Int.le_refl _
  refine ⟨by rw [hp.len]; exact h.len, fun j j0 j1 => ?_, fun j j0 j1 hj => ?_, fun x y ho hop => ?_⟩
  · by_cases hj : j = t
    · subst hj; have := h.bd j j0 j1; have := hp.le; have := hp.nn; omega
    · rw [hp.rest j j0 hj]; exact h.bd j j0 j1
  · by_cases hjt : j = t
    · subst hjt; have := h.zero j j0 j1 hj; have := hp.le; have := hp.nn; omega
    · rw [hp.rest j j0 hjt]; exact h.zero j j0 j1 hj
  · have hb := ho.bd hg
    have old : ∀ v, v = gi k (x + g.w * y) → v = 128 ∨ ∃ dx dy, (-1 ≤ dx ∧ dx ≤ 1) ∧ (-1 ≤ dy ∧ dy ≤ 1) ∧ KP g k' (x + dx) (y + dy) + 1 ≤ v := fun v hv => by
      rcases h.sup x y ho hop with h1 | ⟨dx, dy, h1, h2, h3⟩
      · exact .inl (hv.trans h1)
      · exact .inr ⟨dx, dy, h1, h2, by have := KP.le hg hle (x + dx) (y + dy); omega⟩
    by_cases hj : x + g.w * y = t
    · have hxy := ho.xy
      rw [hj] at hxy ⊢
      rcases hp.why with h1 | ⟨i, hi, h1⟩
      · exact old _ (by rw [h1, hj])
      · refine .inr ⟨(gi ws i).a, (gi ws i).b, (hws i hi.1 hi.2).1, (hws i hi.1 hi.2).2, ?_⟩
        rw [hxy.1, hxy.2] at h1
        have := KP.le hg hle (x + (gi ws i).a) (y + (gi ws i).b)
        omega
    · rw [hp.rest _ hb.1.1 hj]; exact old _ rfl
theorem KI0.fin {g : Grd} {o : List Bool} {k k1 : List Int} (hg : GOk g) (h : KI0 g o k) (hk1 : (k1.length : Int) = g.w * g.h)
    (hc : ∀ x y a b, On g x y → F1 a b → KP g k1 x y ≤ KP g k1 (x + a) (y + b) + 1) (hf : ∀ x y a b, On g x y → F2 a b → KP g k x y ≤ KP g k (x + a) (y + b) + 1)
    (hle : ∀ x y, On g x y → KP g k x y ≤ KP g k1 x y) (hor : ∀ x y, On g x y → KP g k x y = KP g k1 x y ∨ ∃ a b, F2 a b ∧ KP g k x y = KP g k (x + a) (y + b) + 1) : KS g o k := by
  have hnn : ∀ x y, 0 ≤ KP g k x y := fun x y => by
    by_cases ho : On g x y
    · rw [KP.on ho]; have := ho.bd hg; exact (h.bd _ this.1.1 this.1.2).1
    · rw [KP.off ho]; exact Int.le_refl _
  have hch := chamfer (O := On g) (k := KP g k) (k1 := KP g k1) (fun x y ho => ⟨KP.off ho, KP.off ho⟩) hnn hc hf hle hor
  have lip : ∀ x y dx dy, On g x y → (-1 ≤ dx ∧ dx ≤ 1) → (-1 ≤ dy ∧ dy ≤ 1) → KP g k x y ≤ KP g k (x + dx) (y + dy) + 1 := fun x y dx dy ho h1 h2 => by
    have : (dx = 0 ∧ dy = 0) ∨ F1 dx dy ∨ F2 dx dy := by unfold F1 F2; omega
    rcases this with ⟨rfl, rfl⟩ | h3 | h3
    · rw [Int.add_zero, Int.add_zero]; omega
    · exact hch (KP g k (x + dx) (y + dy)).toNat x y dx dy ho h3 (by have := hnn (x + dx) (y + dy); omega)
    · exact hf x y dx dy ho h3
  have hup : ∀ (n : Nat) x y, On g x y → y = (n : Int) → KP g k x y ≤ y + 1 := by
    intro n
    induction n with
    | zero =>
      intro x y ho hy
      have h1 := lip x y 0 (-1) ho (by omega) (by omega)
      rw [KP.off (x := x + 0) (y := y + -1) (fun h => by unfold On at h; omega)] at h1
      omega
    | succ n ih =>
      intro x y ho hy
      have h1 := lip x y 0 (-1) ho (by omega) (by omega)
      have h2 := ih (x + 0) (y + -1) (by unfold On at ho ⊢; omega) (by omega)
      omega
  have h127 : ∀ x y, On g x y → KP g k x y ≤ 127 := fun x y ho => by
    have ho' := ho
    unfold On at ho'
    have g2 := hg.2.1
    by_cases hy : y ≤ 126
    · have := hup y.toNat x y ho (by omega); omega
    · have h1 := lip x y 0 1 ho (by omega) (by omega)
      rw [KP.off (x := x + 0) (y := y + 1) (fun h => by unfold On at h; omega)] at h1
      omega
  refine ⟨h.len, fun j j0 j1 => ?_, fun x y ho hop => ?_, lip, fun x y ho hop => ?_⟩
  · obtain ⟨ho, he⟩ := On.of hg ⟨j0, j1⟩
    have := h127 _ _ ho
    rw [KP.on ho, he] at this
    exact ⟨(h.bd j j0 j1).1, this⟩
  · rw [KP.on ho]; have := ho.bd hg; exact h.zero _ this.1.1 this.1.2 hop
  · have h7 := h127 x y ho
    rcases h.sup x y ho hop with h1 | ⟨dx, dy, h1, h2, h3⟩
    · rw [KP.on ho] at h7; omega
    · have := lip x y dx dy ho h1 h2
      rw [KP.on ho] at this ⊢
      exact ⟨dx, dy, h1, h2, by omega⟩
theorem room_b {g : Grd} {l : List Bld} {c : Int} (hg : GOk g) (hm : MOk g l) (hc : 0 ≤ c ∧ c ≤ 2) : Ok (clear_Room g l c) fun k => ∃ o, OpR g l c o ∧ KS g o k := by
  have ha := hg.area
  have hgl := hg.2.2.1
  have g1 := hg.1
  unfold clear_Room
  rw [if_pos (by omega)]
  refine Ok.bind (tilesO_b hg hm hc) fun o ho => ?_
  have hol := ho.1
  -- the table ahead of both passes
  refine Ok.bind (R := fun k => (k.length : Int) = g.w * g.h ∧ ∀ j : Int, 0 ≤ j → j < g.w * g.h → gi k j = if gi o j = true then 128 else 0) (Ok.loop (fun z : Int × List Int => (0 ≤ z.1 ∧ z.1 ≤ o.length) ∧ (z.2.length : Int) = g.w * g.h ∧ (∀ j : Int, 0 ≤ j → j < z.1 → gi z.2 j = if gi o j = true then 128 else 0) ∧ ∀ j : Int, z.1 ≤ j → j < g.w * g.h → gi z.2 j = 0) (fun z => (o.length - z.1).toNat)
    ⟨by simp, by simp; omega, fun j j0 j1 => (by have : j < 0 := j1; omega), fun j j0 j1 => gi_replicate ⟨j0, by omega⟩⟩ (by unfold FUEL; simp; omega) ?_) (fun k0 hk0 => ?_)
  · rintro ⟨v, k⟩ ⟨⟨v0, v1⟩, hl, h1, h2⟩
    dsimp only at v0 v1 hl h1 h2 ⊢
    refine Ok.ite (fun hlt => Ok.gd ⟨v0, hlt⟩ (Ok.ite (fun hop => Ok.gd (by omega) (Ok.gd (by unfold I64; omega) (Ok.ret ⟨⟨by show 0 ≤ v + 1 ∧ v + 1 ≤ _; omega, by show ((si k v 128).length : Int) = _; rw [len_si]; exact hl, fun j j0 j1 => ?_, fun j j0 j1 => ?_⟩, by show ((o.length : Int) - (v + 1)).toNat < _; omega⟩))) (fun hop => Ok.gd (by unfold I64; omega) (Ok.ret ⟨⟨by show 0 ≤ v + 1 ∧ v + 1 ≤ _; omega, hl, fun j j0 j1 => ?_, fun j j0 j1 => h2 j (by have : v + 1 ≤ j := j0; omega) j1⟩, by show ((o.length : Int) - (v + 1)).toNat < _; omega⟩)))) (fun hlt => Ok.ret ⟨hl, fun j j0 j1 => h1 j j0 (by omega)⟩)
    · show gi (si k v 128) j = _
      by_cases hj : j = v
      · subst hj; rw [gi_si_self ⟨v0, by omega⟩, if_pos hop]
      · rw [gi_si_ne v0 j0 (Ne.symm hj)]; exact h1 j j0 (by have : j < v + 1 := j1; omega)
    · show gi (si k v 128) j = 0
      rw [gi_si_ne v0 (by have : v + 1 ≤ j := j0; omega) (by have : v + 1 ≤ j := j0; omega)]; exact h2 j (by have : v + 1 ≤ j := j0; omega) j1
    · show gi k j = _
      by_cases hj : j = v
      · subst hj; rw [if_neg hop]; exact h2 j (Int.le_refl _) (by omega)
      · exact h1 j j0 (by have : j < v + 1 := j1; omega)
  obtain ⟨hk0l, hk0⟩ := hk0
  have hI0 : KI0 g o k0 := by
    refine ⟨hk0l, fun j j0 j1 => ?_, fun j j0 j1 hj => by rw [hk0 j j0 j1, if_neg hj], fun x y hon hop => .inl ?_⟩
    · rw [hk0 j j0 j1]; split <;> omega
    · have := hon.bd hg; rw [hk0 _ this.1.1 this.1.2, if_pos hop]
  have hN : ((g.tiles.length : Int).toNat : Int) = g.w * g.h := by omega
  rw [hN]
  have hwb1 : ∀ i : Int, 0 ≤ i → i < W1.length → (-1 ≤ (gi W1 i).a ∧ (gi W1 i).a ≤ 1) ∧ (-1 ≤ (gi W1 i).b ∧ (gi W1 i).b ≤ 1) := fun i i0 i1 => by have := (at_W1 (i := i) ⟨i0, i1⟩).bd; exact ⟨this.1, this.2.1⟩
  have hwb2 : ∀ i : Int, 0 ≤ i → i < W2.length → (-1 ≤ (gi W2 i).a ∧ (gi W2 i).a ≤ 1) ∧ (-1 ≤ (gi W2 i).b ∧ (gi W2 i).b ≤ 1) := fun i i0 i1 => by have := (at_W2 (i := i) ⟨i0, i1⟩).bd; exact ⟨this.1, this.2.1⟩
  have hm1 : ∀ w ∈ W1, (-1 ≤ w.a ∧ w.a ≤ 1) ∧ (-1 ≤ w.b ∧ w.b ≤ 1) ∧ ¬ (w.a = 0 ∧ w.b = 0) := fun w hw => by
    obtain ⟨i, i0, i1, rfl⟩ := gi_mem2.1 hw; exact (at_W1 (i := i) ⟨i0, i1⟩).bd
  have hm2 : ∀ w ∈ W2, (-1 ≤ w.a ∧ w.a ≤ 1) ∧ (-1 ≤ w.b ∧ w.b ≤ 1) ∧ ¬ (w.a = 0 ∧ w.b = 0) := fun w hw => by
    obtain ⟨i, i0, i1, rfl⟩ := gi_mem2.1 hw; exact (at_W2 (i := i) ⟨i0, i1⟩).bd
  -- ahead
  refine Ok.bind (R := fun k => KI0 g o k ∧ ∀ x y a b, On g x y → F1 a b → KP g k x y ≤ KP g k (x + a) (y + b) + 1) (Ok.loop (fun z : Int × List Int => (0 ≤ z.1 ∧ z.1 ≤ g.w * g.h) ∧ KI0 g o z.2 ∧ ∀ x y a b, On g x y → x + g.w * y < z.1 → F1 a b → KP g z.2 x y ≤ KP g z.2 (x + a) (y + b) + 1) (fun z => (g.w * g.h - z.1).toNat)
    ⟨by simp; omega, hI0, fun x y a b hon hlt _ => (by have := hon.bd hg; have : x + g.w * y < 0 := hlt; omega)⟩ (by unfold FUEL; simp; omega) ?_) (fun k1 hk1 => ?_)
  · rintro ⟨v, k⟩ ⟨⟨v0, v1⟩, hI, hq⟩
    dsimp only at v0 v1 hI hq ⊢
    refine Ok.ite (fun hlt => ?_) (fun hlt => Ok.ret ⟨hI, fun x y a b hon hf => hq x y a b hon (by have := hon.bd hg; omega) hf⟩)
    refine Ok.bind (pass_b (ws := W1) hg hI.len ⟨v0, hlt⟩ hm1 (by decide) (fun j j0 j1 => hI.bd j j0 (by have := hI.len; omega))) fun k' hp => ?_
    refine Ok.gd (by unfold I64; omega) (Ok.ret ⟨⟨by show 0 ≤ v + 1 ∧ v + 1 ≤ _; omega, hI.pass hg ⟨v0, hlt⟩ hp hwb1, fun x y a b hon hlt2 hf => ?_⟩, by show (g.w * g.h - (v + 1)).toNat < _; omega⟩)
    have hb := hon.bd hg
    have hlt2 : x + g.w * y < v + 1 := hlt2
    have nbr : KP g k' (x + a) (y + b) = KP g k (x + a) (y + b) := by
      by_cases hn : On g (x + a) (y + b)
      · have := hf.lt hon g1.1 hn
        rw [KP.on hn, KP.on hn, hp.rest _ (hn.bd hg).1.1 (by omega)]
      · rw [KP.off hn, KP.off hn]
    show KP g k' x y ≤ KP g k' (x + a) (y + b) + 1
    rw [nbr, KP.on hon]
    by_cases hv : x + g.w * y = v
    · obtain ⟨i, hi, e1, e2⟩ := W1_at hf
      have := hp.way i hi.1 (by have : (W1.length : Int) = 4 := rfl; omega)
      have hxy := hon.xy
      rw [hv] at hxy ⊢
      rw [hxy.1, hxy.2, e1, e2] at this
      exact this
    · rw [hp.rest _ hb.1.1 hv]
      have := hq x y a b hon (by omega) hf
      rw [KP.on hon] at this
      exact this
  obtain ⟨hI1, hc1⟩ := hk1
  rw [if_pos (by unfold I64; omega)]
  -- back
  refine Ok.bind (R := fun k => KS g o k) (Ok.loop (fun z : Int × List Int => (-1 ≤ z.1 ∧ z.1 < g.w * g.h) ∧ KI0 g o z.2 ∧ (∀ j : Int, 0 ≤ j → j ≤ z.1 → gi z.2 j = gi k1 j) ∧ ∀ x y, On g x y → z.1 < x + g.w * y → KP g z.2 x y ≤ KP g k1 x y ∧ (∀ a b, F2 a b → KP g z.2 x y ≤ KP g z.2 (x + a) (y + b) + 1) ∧ (KP g z.2 x y = KP g k1 x y ∨ ∃ a b, F2 a b ∧ KP g z.2 x y = KP g z.2 (x + a) (y + b) + 1)) (fun z => (z.1 + 1).toNat)
    ⟨by simp; omega, hI1, fun _ _ _ => rfl, fun x y hon hlt => (by have := hon.bd hg; have : g.w * g.h - 1 < x + g.w * y := hlt; omega)⟩ (by unfold FUEL; simp; omega) ?_) (fun k hk => Ok.ret ⟨o, ho, hk⟩)
  rintro ⟨v, k⟩ ⟨⟨v0, v1⟩, hI, hsame, hq⟩
  dsimp only at v0 v1 hI hsame hq ⊢
  refine Ok.ite (fun hlt => ?_) (fun hlt => Ok.ret ?_)
  · refine Ok.bind (pass_b (ws := W2) hg hI.len ⟨hlt, v1⟩ hm2 (by decide) (fun j j0 j1 => hI.bd j j0 (by have := hI.len; omega))) fun k' hp => ?_
    refine Ok.gd (by unfold I64; omega) (Ok.ret ⟨⟨by show -1 ≤ v - 1 ∧ v - 1 < _; omega, hI.pass hg ⟨hlt, v1⟩ hp hwb2, fun j j0 j1 => ?_, fun x y hon hlt2 => ?_⟩, by show (v - 1 + 1).toNat < (v + 1).toNat; omega⟩)
    · have : j ≤ v - 1 := j1
      show gi k' j = _
      rw [hp.rest j j0 (by omega)]; exact hsame j j0 (by omega)
    · have hb := hon.bd hg
      have hlt2 : v - 1 < x + g.w * y := hlt2
      have nbr : ∀ a b, F2 a b → KP g k' (x + a) (y + b) = KP g k (x + a) (y + b) := fun a b hf => by
        by_cases hn : On g (x + a) (y + b)
        · have := hf.lt hon g1.1 hn
          rw [KP.on hn, KP.on hn, hp.rest _ (hn.bd hg).1.1 (by omega)]
        · rw [KP.off hn, KP.off hn]
      show KP g k' x y ≤ _ ∧ (∀ a b, F2 a b → KP g k' x y ≤ KP g k' (x + a) (y + b) + 1) ∧ (KP g k' x y = _ ∨ ∃ a b, F2 a b ∧ KP g k' x y = KP g k' (x + a) (y + b) + 1)
      by_cases hv : x + g.w * y = v
      · have hxy := hon.xy
        have hkv := hsame v hlt (Int.le_refl _)
        have e1 : KP g k' x y = gi k' v := by rw [KP.on hon, hv]
        have e2 : KP g k1 x y = gi k v := by rw [KP.on hon, hv, hkv]
        rw [e1, e2]
        rw [hv] at hxy
        refine ⟨hp.le, fun a b hf => ?_, ?_⟩
        · obtain ⟨i, hi, e3, e4⟩ := W2_at hf
          have := hp.way i hi.1 (by have : (W2.length : Int) = 4 := rfl; omega)
          rw [hxy.1, hxy.2, e3, e4] at this
          rw [nbr a b hf]; exact this
        · rcases hp.why with h | ⟨i, hi, h⟩
          · exact .inl h
          · have hf := at_W2 (i := i) ⟨hi.1, by have : (W2.length : Int) = 4 := rfl; omega⟩
            rw [hxy.1, hxy.2] at h
            exact .inr ⟨_, _, hf, by rw [nbr _ _ hf]; exact h⟩
      · obtain ⟨q1, q2, q3⟩ := hq x y hon (by omega)
        have e1 : KP g k' x y = KP g k x y := by rw [KP.on hon, KP.on hon, hp.rest _ hb.1.1 hv]
        rw [e1]
        refine ⟨q1, fun a b hf => by rw [nbr a b hf]; exact q2 a b hf, ?_⟩
        rcases q3 with h | ⟨a, b, hf, h⟩
        · exact .inl h
        · exact .inr ⟨a, b, hf, by rw [nbr a b hf]; exact h⟩
  · have hv : v = -1 := by omega
    subst hv
    exact hI.fin hg hI1.len hc1 (fun x y a b hon hf => (hq x y hon (by have := hon.bd hg; omega)).2.1 a b hf) (fun x y hon => (hq x y hon (by have := hon.bd hg; omega)).1) (fun x y hon => (hq x y hon (by have := hon.bd hg; omega)).2.2)
end Go.Proofs.YthdbofgcckjopaaGreat
set_option linter.unusedVariables false
set_option linter.unusedSimpArgs false
namespace Go.Proofs.YthdbofgcckjopaaGreat
open Go.Vg
/-- Which tiles are good. -/
def GdR (g : Grd) (k : List Int) (s : Int) (d : List Bool) : Prop := (d.length : Int) = g.w * g.h ∧ ∀ t : Int, 0 ≤ t → t < g.w * g.h → (gi d t = true ↔ s < gi k t)
theorem fit_b {g : Grd} {l : List Bld} {c : Int} (hg : GOk g) (hm : MOk g l) (hc : 0 ≤ c ∧ c ≤ 2) (s : Int) : Ok (field_Fit g l c s) fun d => ∃ o k, OpR g l c o ∧ KS g o k ∧ GdR g k s d := by
  have ha := hg.area
  have hgl := hg.2.2.1
  unfold field_Fit
  rw [if_pos (by omega)]
  refine Ok.bind (room_b hg hm hc) ?_
  rintro k ⟨o, ho, hk⟩
  have hkl := hk.len
  refine Ok.bind (R := GdR g k s) (Ok.loop (fun z : Int × List Bool => (0 ≤ z.1 ∧ z.1 ≤ k.length) ∧ (z.2.length : Int) = g.w * g.h ∧ ∀ t : Int, 0 ≤ t → t < z.1 → (gi z.2 t = true ↔ s < gi k t)) (fun z => (k.length - z.1).toNat)
    ⟨by simp, by simp; omega, fun t t0 t1 => (by have : t < 0 := t1; omega)⟩ (by unfold FUEL; simp; omega) ?_) (fun d hd => Ok.ret ⟨o, k, ho, hk, hd⟩)
  rintro ⟨v, d⟩ ⟨⟨v0, v1⟩, hl, h1⟩
  dsimp only at v0 v1 hl h1 ⊢
  refine Ok.ite (fun hlt => Ok.gd ⟨v0, hlt⟩ (Ok.gd (by omega) (Ok.gd (by unfold I64; omega) (Ok.ret ⟨⟨by show 0 ≤ v + 1 ∧ v + 1 ≤ _; omega, by show ((si d v _).length : Int) = _; rw [len_si]; exact hl, fun t t0 t1 => ?_⟩, by show ((k.length : Int) - (v + 1)).toNat < _; omega⟩)))) (fun hlt => Ok.ret ⟨hl, fun t t0 t1 => h1 t t0 (by omega)⟩)
  show gi (si d v (decide (s < gi k v))) t = true ↔ _
  by_cases e : t = v
  · subst e; rw [gi_si_self ⟨v0, by omega⟩, decide_eq_true_iff]
  · rw [gi_si_ne v0 t0 (Ne.symm e)]; exact h1 t t0 (by have : t < v + 1 := t1; omega)
/-- May it be asked? -/
def AOk (g : Grd) (l : List Bld) (c s : Int) : Prop := (GOk g ∧ MOk g l) ∧ (0 ≤ c ∧ c ≤ 2) ∧ (0 ≤ s ∧ s ≤ 3)
theorem mayF_b {g : Grd} {l : List Bld} {c s : Int} (hg : g.tiles.length ≤ 9223372036854775806) (hl : l.length ≤ 9223372036854775806) : Bo (field_May g l c s) (AOk g l c s) := by
  unfold field_May
  by_cases hs : 0 ≤ s ∧ s ≤ 3
  · rw [if_pos hs]
    unfold clear_May
    by_cases h1 : GOk g
    · rw [(may_g hg).t h1, bsome, if_pos rfl]
      by_cases h2 : MOk g l
      · rw [(may_b h1 hl).t h2, bsome, bsome, if_pos rfl]
        show Bo (some (decide ((0 ≤ c) ∧ (c ≤ 2)))) _
        exact Bo.dec ⟨fun h => ⟨⟨h1, h2⟩, h, hs⟩, fun h => h.2.1⟩
      · rw [(may_b h1 hl).f h2, bsome, bsome, if_neg (by simp)]
        exact Ok.ret ⟨fun e => (by cases e), fun e => absurd e.1.2 h2⟩
    · rw [(may_g hg).f h1, bsome, if_neg (by simp), bsome, if_neg (by simp)]
      exact Ok.ret ⟨fun e => (by cases e), fun e => absurd e.1.1 h1⟩
  · rw [if_neg hs]
    exact Ok.ret ⟨fun e => (by cases e), fun e => absurd e.2.2 hs⟩
theorem mayFR_b {g : Grd} {l : List Bld} {c s : Int} (hg : g.tiles.length ≤ 9223372036854775806) (hl : l.length ≤ 9223372036854775806) : Bo (throngref13_May g l c s) (AOk g l c s) := by
  unfold throngref13_May
  by_cases h1 : GOk g ∧ MOk g l
  · rw [(mayR_b hg hl).t h1, bsome, if_pos rfl]
    by_cases hc : 0 ≤ c ∧ c ≤ 2
    · have e : throngref5_Class c = some true := by unfold throngref5_Class; rw [decide_eq_true hc]
      rw [e, bsome, bsome, if_pos rfl]
      show Bo (some (decide ((0 ≤ s) ∧ (s ≤ 3)))) _
      exact Bo.dec ⟨fun h => ⟨h1, hc, h⟩, fun h => h.2.2⟩
    · have e : throngref5_Class c = some false := by unfold throngref5_Class; rw [decide_eq_false hc]
      rw [e, bsome, bsome, if_neg (by simp)]
      exact Ok.ret ⟨fun e => (by cases e), fun e => absurd e.2.1 hc⟩
  · rw [(mayR_b hg hl).f h1, bsome, if_neg (by simp), bsome, if_neg (by simp)]
    exact Ok.ret ⟨fun e => (by cases e), fun e => absurd e.1 h1⟩
theorem goodP_b {g : Grd} {l : List Bld} {c s : Int} (hg : g.tiles.length ≤ 9223372036854775806) (hl : l.length ≤ 9223372036854775806) : Ok (field_Good g l c s) fun r => (AOk g l c s ∧ r.2 = 0 ∧ ∃ o k, OpR g l c o ∧ KS g o k ∧ GdR g k s r.1) ∨ (¬ AOk g l c s ∧ r = ([], 1)) := by
  unfold field_Good
  by_cases h : AOk g l c s
  · rw [(mayF_b hg hl).t h, bsome, if_neg (by simp)]
    exact Ok.bind (fit_b h.1.1 h.1.2 h.2.1 s) fun d hd => Ok.ret (.inl ⟨h, rfl, hd⟩)
  · rw [(mayF_b hg hl).f h, bsome, if_pos (by rfl)]
    exact Ok.ret (.inr ⟨h, rfl⟩)
end Go.Proofs.YthdbofgcckjopaaGreat

set_option linter.unusedVariables false
set_option linter.unusedSimpArgs false
namespace Go.Proofs.YthdbofgcckjopaaGreat
open Go.Vg
def Itm.Lt (a b : Itm) : Prop := a.key < b.key ∨ a.key = b.key ∧ a.val < b.val
instance (a b : Itm) : Decidable (Itm.Lt a b) := by unfold Itm.Lt; exact inferInstance
namespace Qp
abbrev el (l : List Itm) (i : Nat) : Itm := l.getD i ⟨0, 0⟩
def swp (l : List Itm) (i j : Nat) : List Itm := (l.set i (el l j)).set j (el l i)
theorem len_swp (l : List Itm) (i j : Nat) : (swp l i j).length = l.length := by simp [swp]
theorem el_swp {l : List Itm} {i j k : Nat} (hi : i < l.length) (hj : j < l.length) : el (swp l i j) k = if k = j then el l i else if k = i then el l j else el l k := by
  unfold el swp
  by_cases h1 : k = j
  · subst h1; simp [hj]
  · rw [if_neg h1]
    simp only [List.getD_eq_getElem?_getD]
    rw [List.getElem?_set_ne (fun e => h1 e.symm)]
    by_cases h2 : k = i
    · subst h2; simp [hi]
    · rw [if_neg h2, List.getElem?_set_ne (fun e => h2 e.symm)]
theorem count_set (a : Itm) : ∀ (l : List Itm) (i : Nat) (x : Itm), i < l.length → (l.set i x).count a + (if el l i = a then 1 else 0) = l.count a + (if x = a then 1 else 0)
  | [], i, x, h => by simp at h
  | y :: l, 0, x, _ => by simp [List.count_cons, el]; split <;> split <;> simp_all <;> omega
  | y :: l, i + 1, x, h => by
    have := count_set a l i x (by simpa using h)
    simp only [List.set_cons_succ, List.count_cons]
    have e : el (y :: l) (i + 1) = el l i := by simp [el]
    rw [e]; omega
theorem perm_swp {l : List Itm} {i j : Nat} (hi : i < l.length) (hj : j < l.length) : (swp l i j).Perm l := by
  rw [List.perm_iff_count]
  intro a
  have h1 := count_set a l i (el l j) hi
  have h2 := count_set a (l.set i (el l j)) j (el l i) (by simpa using hj)
  have h3 : el (l.set i (el l j)) j = el l j := by
    by_cases h : i = j
    · subst h; unfold el; simp [hi]
    · unfold el; simp only [List.getD_eq_getElem?_getD]; rw [List.getElem?_set_ne h]
  rw [h3] at h2
  unfold swp
  omega

/-- A heap but for the element at i, which may be less than what is above it. -/
def HUp (l : List Itm) (i : Nat) : Prop := (∀ j, 0 < j → j < l.length → j ≠ i → ¬ (el l j).Lt (el l ((j - 1) / 2))) ∧ (∀ j, 0 < j → j < l.length → (j - 1) / 2 = i → 0 < i → ¬ (el l j).Lt (el l ((i - 1) / 2)))
def Heap (l : List Itm) : Prop := ∀ j, 0 < j → j < l.length → ¬ (el l j).Lt (el l ((j - 1) / 2))
/-- A heap but for the element at i, which may be greater than those below it. -/
def HDn (l : List Itm) (i : Nat) : Prop := (∀ j, 0 < j → j < l.length → (j - 1) / 2 ≠ i → ¬ (el l j).Lt (el l ((j - 1) / 2))) ∧ (∀ j, 0 < j → j < l.length → (j - 1) / 2 = i → 0 < i → ¬ (el l j).Lt (el l ((i - 1) / 2)))

theorem Heap.push {l : List Itm} (h : Heap l) (x : Itm) : HUp (l ++ [x]) l.length := by
  have e : ∀ k, k < l.length → el (l ++ [x]) k = el l k := fun k hk => by unfold el; simp only [List.getD_eq_getElem?_getD]; rw [List.getElem?_append_left hk]
  constructor
  · intro j h0 hj hne
    simp at hj
    rw [e j (by omega), e _ (by omega)]
    exact h j h0 (by omega)
  · intro j h0 hj hp _
    simp at hj; omega
theorem HUp.done {l : List Itm} {i : Nat} (h : HUp l i) (hs : i = 0 ∨ ¬ (el l i).Lt (el l ((i - 1) / 2))) : Heap l := by
  intro j h0 hj
  by_cases hji : j = i
  · subst hji
    rcases hs with hs | hs
    · omega
    · exact hs
  · exact h.1 j h0 hj hji
theorem HUp.step {l : List Itm} {i : Nat} (h : HUp l i) (h0 : 0 < i) (hi : i < l.length) (hlt : (el l i).Lt (el l ((i - 1) / 2))) : HUp (swp l i ((i - 1) / 2)) ((i - 1) / 2) := by
  have hup : (i - 1) / 2 < l.length := by omega
  have hne : (i - 1) / 2 ≠ i := by omega
  constructor
  · intro j j0 hj hjn
    rw [len_swp] at hj
    rw [el_swp hi hup, el_swp hi hup, if_neg hjn]
    by_cases hji : j = i
    · subst hji
      rw [if_pos rfl, if_pos rfl]
      unfold Itm.Lt at *; omega
    · rw [if_neg hji]
      by_cases hp : (j - 1) / 2 = (i - 1) / 2
      · rw [if_pos hp]
        have := h.1 j j0 hj hji
        rw [hp] at this
        unfold Itm.Lt at *; omega
      · rw [if_neg hp]
        by_cases hp2 : (j - 1) / 2 = i
        · rw [if_pos hp2]; exact h.2 j j0 hj hp2 h0
        · rw [if_neg hp2]; exact h.1 j j0 hj hji
  · intro j j0 hj hp hu0
    rw [len_swp] at hj
    have hup2 : ((i - 1) / 2 - 1) / 2 ≠ (i - 1) / 2 := by omega
    have hup3 : ((i - 1) / 2 - 1) / 2 ≠ i := by omega
    rw [el_swp hi hup, el_swp hi hup, if_neg hup2, if_neg hup3, if_neg (by omega)]
    have hu := h.1 ((i - 1) / 2) hu0 hup hne
    by_cases hji : j = i
    · rw [if_pos hji]; exact hu
    · rw [if_neg hji]
      have := h.1 j j0 hj hji
      rw [hp] at this
      unfold Itm.Lt at *; omega

/-- The least is at the head. -/
theorem Heap.head {l : List Itm} (h : Heap l) : ∀ i, i < l.length → ¬ (el l i).Lt (el l 0) := by
  intro i
  induction i using Nat.strongRecOn with
  | _ i ih =>
    intro hi
    by_cases h0 : i = 0
    · subst h0; unfold Itm.Lt; omega
    · have h1 := h i (by omega) hi
      have h2 := ih ((i - 1) / 2) (by omega) (by omega)
      unfold Itm.Lt at *; omega

theorem HDn.done {l : List Itm} {i : Nat} (h : HDn l i) (hs : ∀ j, 0 < j → j < l.length → (j - 1) / 2 = i → ¬ (el l j).Lt (el l i)) : Heap l := by
  intro j h0 hj
  by_cases hji : (j - 1) / 2 = i
  · rw [hji]; exact hs j h0 hj hji
  · exact h.1 j h0 hj hji
/-- k: the less one of those below i. -/
theorem HDn.step {l : List Itm} {i k : Nat} (h : HDn l i) (hk : k < l.length) (hk0 : 0 < k) (hki : (k - 1) / 2 = i) (hlt : (el l k).Lt (el l i)) (hmin : ∀ j, 0 < j → j < l.length → (j - 1) / 2 = i → ¬ (el l j).Lt (el l k)) : HDn (swp l i k) k := by
  have hi : i < l.length := by omega
  have hik : i ≠ k := by omega
  constructor
  · intro j j0 hj hjn
    rw [len_swp] at hj
    rw [el_swp hi hk, el_swp hi hk, if_neg hjn]
    by_cases hp : (j - 1) / 2 = i
    · rw [if_pos hp]
      by_cases hjk : j = k
      · subst hjk; rw [if_pos rfl]; unfold Itm.Lt at *; omega
      · rw [if_neg hjk, if_neg (by omega)]; exact hmin j j0 hj hp
    · rw [if_neg hp]
      by_cases hjk : j = k
      · omega
      · rw [if_neg hjk]
        by_cases hji : j = i
        · rw [if_pos hji]
          subst hji
          exact h.2 k hk0 hk hki j0
        · rw [if_neg hji]; exact h.1 j j0 hj hp
  · intro j j0 hj hp hk0'
    rw [len_swp] at hj
    rw [el_swp hi hk, el_swp hi hk, if_neg (by omega), if_neg (by omega), hki, if_neg hik, if_pos rfl]
    have := h.1 j j0 hj (by omega)
    rw [hp] at this
    exact this

/-- What is left when the last one has been put at the head and the list is one shorter. -/
theorem pop_perm {l : List Itm} (hne : 0 < l.length) : (el l 0 :: ((l.set 0 (el l (l.length - 1))).take (l.length - 1))).Perm l := by
  cases l with
  | nil => simp at hne
  | cons x l =>
    rcases List.eq_nil_or_concat l with rfl | ⟨l', y, rfl⟩
    · simp [el]
    · have e : el (x :: (l' ++ [y])) ((x :: (l' ++ [y])).length - 1) = y := by
        unfold el; simp
      rw [List.concat_eq_append] at *
      rw [e]
      simp only [List.set_cons_zero, List.length_cons, List.length_append, List.length_nil, Nat.add_sub_cancel]
      rw [show l'.length + (0 + 1) = l'.length + 1 by omega, List.take_succ_cons, List.take_left]
      have : el (x :: (l' ++ [y])) 0 = x := by simp [el]
      rw [this]
      refine .cons x ?_
      exact (List.perm_append_comm (l₁ := [y]) (l₂ := l'))
theorem Heap.popStart {l : List Itm} (h : Heap l) (hne : 0 < l.length) : HDn ((l.set 0 (el l (l.length - 1))).take (l.length - 1)) 0 := by
  have e : ∀ k, 0 < k → k < l.length - 1 → el ((l.set 0 (el l (l.length - 1))).take (l.length - 1)) k = el l k := fun k h0 hk => by
    unfold el
    simp only [List.getD_eq_getElem?_getD, List.getElem?_take, if_pos hk]
    rw [List.getElem?_set_ne (by omega)]
  constructor
  · intro j j0 hj hp
    simp at hj
    rw [e j j0 (by omega), e _ (by omega) (by omega)]
    exact h j j0 (by omega)
  · intro j _ _ _ h0; omega
theorem gi_el (l : List Itm) (i : Int) : gi l i = el l i.toNat := rfl
theorem less_p (a b : Itm) : queue_item_less a b = some (decide (a.Lt b)) := rfl
theorem push_p {q : Que} (h : Heap q.l) (hl : q.l.length < 1000000000000) (k v : Int) : Ok (queue_Queue_Push q k v) fun r => Heap r.l ∧ r.l.Perm (⟨k, v⟩ :: q.l) := by
  unfold queue_Queue_Push
  obtain ⟨L, hL⟩ : ∃ L, L = q.l ++ [(⟨k, v⟩ : Itm)] := ⟨_, rfl⟩
  have hLl : L.length = q.l.length + 1 := by rw [hL]; simp
  have hLp : L.Perm (⟨k, v⟩ :: q.l) := by rw [hL]; exact List.perm_append_comm (l₁ := q.l) (l₂ := [⟨k, v⟩])
  rw [← hL]
  refine Ok.gd (by omega) (Ok.gd (by unfold I64; omega) ?_)
  refine Ok.bind (R := fun x => match x with | .go r => Heap r ∧ r.Perm (⟨k, v⟩ :: q.l) | .up r => Heap r.l ∧ r.l.Perm (⟨k, v⟩ :: q.l)) (Ok.loop (fun z : Int × List Itm => (0 ≤ z.1 ∧ z.1 < L.length) ∧ z.2.length = L.length ∧ HUp z.2 z.1.toNat ∧ z.2.Perm (⟨k, v⟩ :: q.l)) (fun z => z.1.toNat)
    ⟨by show 0 ≤ (L.length : Int) - 1 ∧ (L.length : Int) - 1 < _; omega, rfl, ?_, hLp⟩ (by unfold FUEL; show ((L.length : Int) - 1).toNat < _; omega) ?_) ?_
  · show HUp L ((L.length : Int) - 1).toNat
    have := h.push (⟨k, v⟩ : Itm)
    rw [← hL] at this
    rw [show ((L.length : Int) - 1).toNat = q.l.length by omega]
    exact this
  · rintro ⟨i, l⟩ ⟨⟨i0, i1⟩, hl2, hu, hp⟩
    dsimp only at i0 i1 hl2 hu hp ⊢
    refine Ok.ite (fun hi => ?_) (fun hi => Ok.ret ⟨hu.done (.inl (by omega)), hp⟩)
    refine Ok.gd (by unfold I64; omega) (Ok.gd (by omega) (Ok.gd (by omega) (Ok.gd (by omega) ?_)))
    have e1 : ((i - 1) / 2).toNat = (i.toNat - 1) / 2 := by omega
    rw [less_p, bsome, gi_el, gi_el, e1]
    refine Ok.ite (fun hc => Ok.ret ?_) (fun hc => Ok.gd (by omega) (Ok.gd (by omega) (Ok.gd (by omega) (Ok.gd (by omega) (Ok.ret ⟨⟨by show 0 ≤ (i - 1) / 2 ∧ (i - 1) / 2 < _; omega, ?_, ?_, ?_⟩, by show ((i - 1) / 2).toNat < _; omega⟩)))))
    · exact ⟨hu.done (.inr (by simpa using hc)), hp⟩
    · show (si (si l i _) ((i - 1) / 2) _).length = _
      rw [len_si, len_si]; exact hl2
    · show HUp (si (si l i (el l ((i.toNat - 1) / 2))) ((i - 1) / 2) (el l i.toNat)) ((i - 1) / 2).toNat
      have := hu.step (by omega) (by omega) (by simpa using hc)
      unfold si
      rw [e1]
      exact this
    · show (si (si l i (el l ((i.toNat - 1) / 2))) ((i - 1) / 2) (el l i.toNat)).Perm _
      have := perm_swp (l := l) (i := i.toNat) (j := (i.toNat - 1) / 2) (by omega) (by omega)
      unfold si
      rw [e1]
      exact this.trans hp
  · intro x hx
    cases x with
    | go r => exact Ok.ret hx
    | up r => exact Ok.ret hx
theorem pop_p {q : Que} (h : Heap q.l) (hl : q.l.length < 1000000000000) : Ok (queue_Queue_Pop q) fun r => (q.l = [] ∧ r.2.2.1 = false ∧ r.2.2.2 = q) ∨ (r.2.2.1 = true ∧ Heap r.2.2.2.l ∧ (⟨r.1, r.2.1⟩ :: r.2.2.2.l).Perm q.l ∧ ∀ x ∈ q.l, ¬ x.Lt ⟨r.1, r.2.1⟩) := by
  unfold queue_Queue_Pop
  refine Ok.gd (by unfold I64; omega) (Ok.ite (fun hn => Ok.ret (.inl ⟨List.length_eq_zero_iff.1 (by omega), rfl, rfl⟩)) (fun hn => ?_))
  refine Ok.gd (by omega) (Ok.gd (by omega) (Ok.gd (by omega) (Ok.gd (by omega) ?_)))
  obtain ⟨L, hL⟩ : ∃ L, L = (si q.l (0 : Int) (gi q.l ((q.l.length : Int) - 1))).take ((q.l.length : Int) - 1).toNat := ⟨_, rfl⟩
  have en : ((q.l.length : Int) - 1).toNat = q.l.length - 1 := by omega
  have hL2 : L = (q.l.set 0 (el q.l (q.l.length - 1))).take (q.l.length - 1) := by rw [hL, gi_el, en]; rfl
  have hLl : L.length = q.l.length - 1 := by rw [hL2, List.length_take, List.length_set]; omega
  have hLp : (el q.l 0 :: L).Perm q.l := by rw [hL2]; exact pop_perm (by omega)
  have hd0 : HDn L 0 := by rw [hL2]; exact h.popStart (by omega)
  rw [← hL]
  refine Ok.bind (R := fun r => Heap r ∧ r.Perm L) (Ok.loop (fun z : Int × List Itm => 0 ≤ z.1 ∧ z.1 ≤ q.l.length ∧ z.2.length = L.length ∧ HDn z.2 z.1.toNat ∧ z.2.Perm L) (fun z => (q.l.length - z.1).toNat)
    ⟨Int.le_refl _, by show (0 : Int) ≤ _; omega, rfl, hd0, .refl _⟩ (by unfold FUEL; show ((q.l.length : Int) - 0).toNat < _; omega) ?_) ?_
  · rintro ⟨i, l⟩ ⟨i0, i1, hl2, hd, hp⟩
    dsimp only at i0 i1 hl2 hd hp ⊢
    refine Ok.gd (by unfold I64; omega) (Ok.gd (by unfold I64; omega) (Ok.ite (fun hk => Ok.ret ⟨hd.done (fun j j0 j1 jp => by omega), hp⟩) (fun hk => Ok.gd (by unfold I64; omega) ?_)))
    -- the less one of the two below
    refine Ok.bind (R := fun b => b = true ↔ (2 * i + 1 + 1 < (q.l.length : Int) - 1 ∧ (gi l (2 * i + 1 + 1)).Lt (gi l (2 * i + 1)))) (Ok.ite (fun hc => ?_) (fun hc => Ok.ret ⟨fun e => (by cases e), fun e => absurd e.1 hc⟩)) (fun b hb => ?_)
    · refine Ok.gd (by unfold I64; omega) (Ok.gd (by omega) (Ok.gd (by omega) ?_))
      rw [less_p, bsome]
      exact Ok.ret ⟨fun e => ⟨hc, of_decide_eq_true e⟩, fun e => decide_eq_true e.2⟩
    · refine Ok.bind (R := fun k => (k = 2 * i + 1 ∨ (k = 2 * i + 2 ∧ 2 * i + 2 < (q.l.length : Int) - 1)) ∧ ∀ j : Int, j < (q.l.length : Int) - 1 → (j = 2 * i + 1 ∨ j = 2 * i + 2) → ¬ (gi l j).Lt (gi l k)) (Ok.ite (fun hbt => Ok.gd (by unfold I64; omega) (Ok.ret ?_)) (fun hbf => Ok.ret ?_)) (fun k hk2 => ?_)
      · have h1 := hb.1 hbt
        have e : 2 * i + 1 + 1 = 2 * i + 2 := by omega
        rw [e] at h1 ⊢
        refine ⟨.inr ⟨rfl, h1.1⟩, fun j j1 hj => ?_⟩
        rcases hj with rfl | rfl
        · have := h1.2; unfold Itm.Lt at *; omega
        · unfold Itm.Lt; omega
      · refine ⟨.inl rfl, fun j j1 hj => ?_⟩
        rcases hj with rfl | rfl
        · unfold Itm.Lt; omega
        · intro hlt
          exact hbf (hb.2 ⟨by omega, by rw [show 2 * i + 1 + 1 = 2 * i + 2 by omega]; exact hlt⟩)
      · obtain ⟨hk3, hmin⟩ := hk2
        have hkb : 0 ≤ k ∧ k < (q.l.length : Int) - 1 := by omega
        refine Ok.gd (by omega) (Ok.gd (by omega) ?_)
        rw [less_p, bsome]
        have hmin2 : ∀ j, 0 < j → j < l.length → (j - 1) / 2 = i.toNat → ¬ (el l j).Lt (el l k.toNat) := fun j j0 j1 jp => by
          have := hmin (j : Int) (by omega) (by omega)
          rw [gi_el, gi_el] at this
          exact this
        refine Ok.ite (fun hc => Ok.ret ⟨hd.done (fun j j0 j1 jp => ?_), hp⟩) (fun hc => Ok.gd (by omega) (Ok.gd (by omega) (Ok.gd (by omega) (Ok.gd (by omega) (Ok.ret ⟨⟨hkb.1, by show k ≤ _; omega, ?_, ?_, ?_⟩, by show ((q.l.length : Int) - k).toNat < _; omega⟩)))))
        · have h1 := hmin2 j j0 j1 jp
          have h2 : ¬ (gi l k).Lt (gi l i) := by simpa using hc
          rw [gi_el, gi_el] at h2
          unfold Itm.Lt at *; omega
        · show (si (si l i _) k _).length = _
          rw [len_si, len_si]; exact hl2
        · have h2 : (gi l k).Lt (gi l i) := by simpa using hc
          rw [gi_el, gi_el] at h2
          exact hd.step (by omega) (by omega) (by omega) h2 hmin2
        · exact (perm_swp (l := l) (i := i.toNat) (j := k.toNat) (by omega) (by omega)).trans hp
  · rintro r ⟨hr, hrp⟩
    refine Ok.ret (.inr ⟨rfl, hr, ?_, fun x hx => ?_⟩)
    · show ((el q.l 0) :: r).Perm q.l
      exact (hrp.cons _).trans hLp
    · obtain ⟨i, hi, e⟩ := List.getElem_of_mem hx
      have := h.head i hi
      unfold el at this
      rw [List.getD_eq_getElem?_getD, List.getElem?_eq_getElem hi, Option.getD_some, e] at this
      exact this
end Qp
end Go.Proofs.YthdbofgcckjopaaGreat
set_option linter.unusedVariables false
set_option linter.unusedSimpArgs false
namespace Go.Proofs.YthdbofgcckjopaaGreat
open Go.Vg Qp
def Sd1 (i : Int) : Int := gi [0, 0, 0, 0, 0, 1, 2, 3] i
def Sd2 (i : Int) : Int := gi [0, 0, 0, 0, 1, 2, 3, 0] i
theorem sd_bd {i : Int} (h : 0 ≤ i ∧ i < 8) : (0 ≤ Sd1 i ∧ Sd1 i < 4) ∧ (0 ≤ Sd2 i ∧ Sd2 i < 4) := by
  obtain ⟨a, ha⟩ : ∃ a : Fin 8, ((a.val : Nat) : Int) = i := ⟨⟨i.toNat, by omega⟩, by simp; omega⟩
  subst ha
  revert a
  decide +kernel
/-- A tile that there is, and that is free. -/
def Fr (fr : List Bool) (u : Int) : Prop := 0 ≤ u ∧ gi fr u = true
instance (fr : List Bool) (u : Int) : Decidable (Fr fr u) := by unfold Fr; exact inferInstance
def tc (g : Grd) (c t : Int) : Int := pr c ((gi g.tiles t).toNat : Int)
/-- What the step from a tile by a way costs; 0: there is none. -/
def stp (g : Grd) (c : Int) (fr : List Bool) (t i : Int) : Int :=
  if Fr fr (nb g t i) then (if i < 4 then 5 * (tc g c t + tc g c (nb g t i)) else if Fr fr (nb g t (Sd1 i)) ∧ Fr fr (nb g t (Sd2 i)) then 7 * (tc g c t + tc g c (nb g t i)) else 0) else 0
theorem nb_bd {g : Grd} (hg : GOk g) {t i : Int} (h : 0 ≤ nb g t i) : nb g t i < g.w * g.h := by
  unfold nb at h ⊢
  by_cases hon : On g (t % g.w + DX i) (t / g.w + DY i)
  · rw [if_pos hon]; exact (hon.bd hg).1.2
  · rw [if_neg hon] at h; omega
theorem tc_bd {g : Grd} {c : Int} (hg : GOk g) (hc : 0 ≤ c ∧ c ≤ 2) {t : Int} (ht : 0 ≤ t ∧ t < g.w * g.h) : 0 ≤ tc g c t ∧ tc g c t ≤ 6 := pr_bd hc ⟨by omega, hg.2.2.2 t ht.1 (by have := hg.2.2.1; omega)⟩
theorem stp_bd {g : Grd} {c : Int} {fr : List Bool} (hg : GOk g) (hc : 0 ≤ c ∧ c ≤ 2) {t i : Int} (ht : 0 ≤ t ∧ t < g.w * g.h) : 0 ≤ stp g c fr t i ∧ stp g c fr t i ≤ 84 := by
  unfold stp
  split
  · rename_i h
    have h1 := tc_bd hg hc ht
    have h2 := tc_bd hg hc ⟨h.1, nb_bd hg h.1⟩
    split
    · omega
    · split <;> omega
  · omega
theorem stp_fr {g : Grd} {c : Int} {fr : List Bool} {t i : Int} (h : 0 < stp g c fr t i) : Fr fr (nb g t i) := by
  unfold stp at h
  split at h
  · assumption
  · omega
theorem step_p {g : Grd} {c : Int} {fr : List Bool} {t i : Int} {near : List Int} {f : Int → Option Bool} (hg : GOk g) (hc : 0 ≤ c ∧ c ≤ 2) (hf : (fr.length : Int) = g.w * g.h) (ht : 0 ≤ t ∧ t < g.w * g.h) (hn : Nbs g t near) (hi : 0 ≤ i ∧ i < 8) (he : ∀ u, f u = some true) : field_Net_Step ⟨g, c, fr⟩ t near i f = some (stp g c fr t i) := by
  have hgl := hg.2.2.1
  have hgt := hg.2.2.2
  obtain ⟨hnl, hnb⟩ := hn
  have hs := sd_bd hi
  have bnd : ∀ j, ¬ nb g t j < 0 → nb g t j < (fr.length : Int) := fun j h => by have := nb_bd hg (t := t) (i := j) (by omega); omega
  unfold field_Net_Step
  rw [hnb i hi.1 hi.2]
  refine Ok.eq (Ok.gd ⟨hi.1, hi.2, hnl⟩ (Ok.gd (fun h => ⟨by omega, bnd i h⟩) ?_))
  unfold stp
  by_cases h1 : Fr fr (nb g t i)
  · have h1' := h1
    obtain ⟨h2, h3⟩ := h1'
    have hub := nb_bd hg h2
    refine Ok.bindE (x := false) (by rw [if_neg (by rw [h3]; simp; omega), he]; rfl) ?_
    rw [if_neg (by simp), if_pos h1, if_pos (by show 0 ≤ t ∧ t < (g.tiles.length : Int); omega)]
    rw [price_p hc ⟨by omega, hgt t ht.1 (by omega)⟩, bsome, if_pos (by show 0 ≤ nb g t i ∧ nb g t i < (g.tiles.length : Int); omega), price_p hc ⟨by omega, hgt _ h2 (by omega)⟩, bsome]
    have t1 := tc_bd hg hc ht
    have t2 := tc_bd hg hc ⟨h2, hub⟩
    show Ok (if I64 (tc g c t + tc g c (nb g t i)) then _ else none) _
    refine Ok.gd (by unfold I64; omega) ?_
    by_cases h4 : i < 4
    · rw [if_pos h4, if_pos h4]
      exact Ok.gd (by show I64 (5 * (tc g c t + tc g c (nb g t i))); unfold I64; omega) (Ok.ret rfl)
    · rw [if_neg h4, if_neg h4]
      have es : field_sides i = some (Sd1 i, Sd2 i) := by unfold field_sides; rw [if_pos ⟨hi.1, hi.2, rfl⟩, if_pos ⟨hi.1, hi.2, rfl⟩]; rfl
      rw [es, bsome]
      dsimp only
      rw [hnb _ hs.1.1 (by omega), hnb _ hs.2.1 (by omega)]
      refine Ok.gd ⟨by omega, by omega, hnl⟩ (Ok.gd (fun _ => ⟨by omega, by omega, hnl⟩) (Ok.gd (fun _ => ⟨by omega, by omega, hnl⟩) (Ok.gd (fun h => ⟨by omega, bnd _ (by omega)⟩) (Ok.gd (fun _ => ⟨by omega, by omega, hnl⟩) (Ok.gd (fun h => ⟨by omega, bnd _ (by omega)⟩) ?_)))))
      by_cases h5 : Fr fr (nb g t (Sd1 i)) ∧ Fr fr (nb g t (Sd2 i))
      · have h5' := h5
        obtain ⟨⟨a1, a2⟩, a3, a4⟩ := h5'
        rw [if_pos h5]
        refine Ok.bindE (x := false) (by rw [if_neg (by rw [a2, a4]; simp; omega), if_pos ⟨by omega, by omega, hnl⟩, he]; rfl) (Ok.bindE (x := false) (by rw [if_neg (by simp), if_pos ⟨by omega, by omega, hnl⟩, he]; rfl) ?_)
        rw [if_neg (by simp)]
        exact Ok.gd (by show I64 (7 * (tc g c t + tc g c (nb g t i))); unfold I64; omega) (Ok.ret rfl)
      · rw [if_neg h5]
        have hb : ((nb g t (Sd1 i) < 0 ∨ nb g t (Sd2 i) < 0) ∨ (!gi fr (nb g t (Sd1 i))) = true) ∨ (!gi fr (nb g t (Sd2 i))) = true := by
          apply Classical.byContradiction; intro hn
          apply h5
          refine ⟨⟨by omega, ?_⟩, by omega, ?_⟩
          · cases hh : gi fr (nb g t (Sd1 i)) with
            | true => rfl
            | false => exact absurd (.inl (.inr (by rw [hh]; rfl))) hn
          · cases hh : gi fr (nb g t (Sd2 i)) with
            | true => rfl
            | false => exact absurd (.inr (by rw [hh]; rfl)) hn
        refine Ok.bindE (x := true) (by rw [if_pos hb]) (Ok.bindE (x := true) (by rw [if_pos rfl]) ?_)
        rw [if_pos rfl]
        exact Ok.ret rfl
  · rw [if_neg h1]
    have hb : nb g t i < 0 ∨ (!gi fr (nb g t i)) = true := by
      apply Classical.byContradiction; intro hn
      refine h1 ⟨by omega, ?_⟩
      cases hh : gi fr (nb g t i) with
      | true => rfl
      | false => exact absurd (.inr (by rw [hh]; rfl)) hn
    refine Ok.bindE (x := true) (by rw [if_pos hb]) ?_
    rw [if_pos rfl]
    exact Ok.ret rfl
/-- A step. -/
def Ed (g : Grd) (c : Int) (fr : List Bool) (t u k : Int) : Prop := ∃ i, (0 ≤ i ∧ i < 8) ∧ nb g t i = u ∧ stp g c fr t i = k ∧ 0 < k
theorem Ed.bd {g : Grd} {c : Int} {fr : List Bool} (hg : GOk g) (hc : 0 ≤ c ∧ c ≤ 2) {t u k : Int} (ht : 0 ≤ t ∧ t < g.w * g.h) (h : Ed g c fr t u k) : (0 ≤ u ∧ u < g.w * g.h) ∧ gi fr u = true ∧ 0 < k ∧ k ≤ 84 := by
  obtain ⟨i, hi, rfl, rfl, hk⟩ := h
  have h1 := stp_fr hk
  exact ⟨⟨h1.1, nb_bd hg h1.1⟩, h1.2, hk, (stp_bd hg hc ht).2⟩
/-- How far it is, told between tiles beside. -/
structure LD (N : Int) (E : Int → Int → Int → Prop) (goal : Int) (d : List Int) : Prop where
  len : (d.length : Int) = N
  ge : ∀ t, 0 ≤ t → t < N → -1 ≤ gi d t
  zero : gi d goal = 0
  edge : ∀ t u k, (0 ≤ t ∧ t < N) → 0 ≤ gi d t → E t u k → 0 ≤ gi d u ∧ gi d u ≤ gi d t + k
  sup : ∀ t, (0 ≤ t ∧ t < N) → t ≠ goal → 0 ≤ gi d t → ∃ u k, (0 ≤ u ∧ u < N) ∧ E u t k ∧ 0 < k ∧ 0 ≤ gi d u ∧ gi d u + k = gi d t
theorem LD.le {N goal : Int} {E E' : Int → Int → Int → Prop} {d d' : List Int} (h : LD N E goal d) (h' : LD N E' goal d') (hE : ∀ t u k, (0 ≤ t ∧ t < N) → 0 ≤ gi d t → E t u k → ∃ k', k' ≤ k ∧ E' t u k') : ∀ t, (0 ≤ t ∧ t < N) → 0 ≤ gi d t → 0 ≤ gi d' t ∧ gi d' t ≤ gi d t := by
  have key : ∀ n : Nat, ∀ t, (0 ≤ t ∧ t < N) → 0 ≤ gi d t → gi d t ≤ n → 0 ≤ gi d' t ∧ gi d' t ≤ gi d t := by
    intro n
    induction n with
    | zero =>
      intro t ht h0 hn
      by_cases hg : t = goal
      · subst hg; rw [h'.zero, h.zero]; omega
      · obtain ⟨u, k, hu, he, hk, hd, hs⟩ := h.sup t ht hg h0
        omega
    | succ n ih =>
      intro t ht h0 hn
      by_cases hg : t = goal
      · subst hg; rw [h'.zero, h.zero]; omega
      · obtain ⟨u, k, hu, he, hk, hd, hs⟩ := h.sup t ht hg h0
        have h1 := ih u hu hd (by omega)
        obtain ⟨k', hk', he'⟩ := hE u t k hu hd he
        have := h'.edge u t k' hu h1.1 he'
        omega
  exact fun t ht h0 => key (gi d t).toNat t ht h0 (by omega)
theorem LD.uniq {N goal : Int} {E : Int → Int → Int → Prop} {d d' : List Int} (h : LD N E goal d) (h' : LD N E goal d') : d = d' := by
  refine ext_gi (by have := h.len; have := h'.len; omega) fun t t0 t1 => ?_
  have ht : 0 ≤ t ∧ t < N := by have := h.len; omega
  have a := h.le h' (fun t u k _ _ he => ⟨k, Int.le_refl _, he⟩) t ht
  have b := h'.le h (fun t u k _ _ he => ⟨k, Int.le_refl _, he⟩) t ht
  have c := h.ge t ht.1 ht.2
  have e := h'.ge t ht.1 ht.2
  by_cases hd : 0 ≤ gi d t
  · have := a hd; have := b this.1; omega
  · by_cases hd' : 0 ≤ gi d' t
    · have := b hd'; omega
    · omega
/-- Where the search stands. -/
structure DJ (N goal : Int) (fr : List Bool) (E : Int → Int → Int → Prop) (d : List Int) (dn : List Bool) (M : List Itm) : Prop where
  dl : (d.length : Int) = N
  nl : (dn.length : Int) = N
  A : ∀ x ∈ M, (0 ≤ x.val ∧ x.val < N) ∧ 0 ≤ gi d x.val ∧ gi d x.val ≤ x.key
  B : ∀ t, (0 ≤ t ∧ t < N) → 0 ≤ gi d t → ¬ gi dn t = true → (⟨gi d t, t⟩ : Itm) ∈ M
  C : ∀ t, (0 ≤ t ∧ t < N) → gi dn t = true → 0 ≤ gi d t ∧ ∀ u k, E t u k → 0 ≤ gi d u ∧ gi d u ≤ gi d t + k
  D : ∀ t, (0 ≤ t ∧ t < N) → gi dn t = true → ∀ x ∈ M, gi d t ≤ x.key
  S : ∀ t, (0 ≤ t ∧ t < N) → t ≠ goal → 0 ≤ gi d t → ∃ u k, (0 ≤ u ∧ u < N) ∧ gi dn u = true ∧ E u t k ∧ 0 < k ∧ gi d u + k = gi d t
  Z : gi d goal = 0
  R : ∀ t, (0 ≤ t ∧ t < N) → -1 ≤ gi d t
  P : ∀ t, (0 ≤ t ∧ t < N) → 0 ≤ gi d t → gi fr t = true
  W : ∀ t, (0 ≤ t ∧ t < N) → gi d t ≤ 84 * (dn.count true : Int)
  V : ∀ x ∈ M, x.key ≤ 84 * (dn.count true : Int)
theorem DJ.congr {N goal : Int} {fr : List Bool} {E : Int → Int → Int → Prop} {d : List Int} {dn : List Bool} {M M' : List Itm} (h : DJ N goal fr E d dn M) (hm : ∀ x, x ∈ M ↔ x ∈ M') : DJ N goal fr E d dn M' :=
  ⟨h.dl, h.nl, fun x hx => h.A x ((hm x).2 hx), fun t ht h0 hd => (hm _).1 (h.B t ht h0 hd), h.C, fun t ht hd x hx => h.D t ht hd x ((hm x).2 hx), h.S, h.Z, h.R, h.P, h.W, fun x hx => h.V x ((hm x).2 hx)⟩
theorem DJ.fin {N goal : Int} {fr : List Bool} {E : Int → Int → Int → Prop} {d : List Int} {dn : List Bool} (h : DJ N goal fr E d dn []) : LD N E goal d := by
  have hd : ∀ t, (0 ≤ t ∧ t < N) → 0 ≤ gi d t → gi dn t = true := fun t ht h0 => Classical.byContradiction fun hn => by cases h.B t ht h0 hn
  refine ⟨h.dl, fun t t0 t1 => h.R t ⟨t0, t1⟩, h.Z, fun t u k ht h0 he => (h.C t ht (hd t ht h0)).2 u k he, fun t ht hg h0 => ?_⟩
  obtain ⟨u, k, hu, hdu, he, hk, hs⟩ := h.S t ht hg h0
  exact ⟨u, k, hu, he, hk, (h.C u hu hdu).1, hs⟩
/-- Ahead of a round: what came out of the queue stands beside it. -/
def DH (N goal : Int) (fr : List Bool) (E : Int → Int → Int → Prop) (z : Int × Int × Bool × List Int × List Bool × Que) : Prop :=
  Heap z.2.2.2.2.2.l ∧ (z.2.2.2.2.2.l.length : Int) ≤ 1 + 8 * (z.2.2.2.2.1.count true : Int) ∧ (z.2.2.1 = true → DJ N goal fr E z.2.2.2.1 z.2.2.2.2.1 (⟨z.1, z.2.1⟩ :: z.2.2.2.2.2.l) ∧ ∀ x ∈ z.2.2.2.2.2.l, z.1 ≤ x.key) ∧ (z.2.2.1 = false → DJ N goal fr E z.2.2.2.1 z.2.2.2.2.1 [] ∧ z.2.2.2.2.2.l = [])
theorem pop_dh {N goal : Int} {fr : List Bool} {E : Int → Int → Int → Prop} {d : List Int} {dn : List Bool} {q : Que} (hh : Heap q.l) (hl : q.l.length < 1000000) (hc : (q.l.length : Int) ≤ 1 + 8 * (dn.count true : Int)) (h : DJ N goal fr E d dn q.l) :
    Ok (queue_Queue_Pop q) fun r => DH N goal fr E (r.1, r.2.1, r.2.2.1, d, dn, r.2.2.2) ∧ r.2.2.2.l.length + (if r.2.2.1 = true then 1 else 0) = q.l.length := by
  refine Ok.mono (pop_p hh (by omega)) ?_
  rintro ⟨k, v, ok, q'⟩ hr
  rcases hr with ⟨h1, h2, h3⟩ | ⟨h1, h2, h3, h4⟩
  · dsimp only at h2 h3
    subst h2; subst h3
    refine ⟨⟨hh, hc, fun e => (by cases e), fun _ => ⟨by rw [h1] at h; exact h, h1⟩⟩, by simp⟩
  · dsimp only at h1 h2 h3 h4
    subst h1
    have hlen := h3.length_eq
    simp at hlen
    refine ⟨⟨h2, by show (q'.l.length : Int) ≤ 1 + 8 * (dn.count true : Int); omega, fun _ => ⟨h.congr fun x => h3.mem_iff.symm, fun x hx => ?_⟩, fun e => (by cases e)⟩, by simpa using hlen⟩
    have := h4 x (h3.mem_iff.1 (List.mem_cons_of_mem _ hx))
    unfold Itm.Lt at this
    show k ≤ x.key
    dsimp only at this
    omega
end Go.Proofs.YthdbofgcckjopaaGreat
set_option linter.unusedVariables false
set_option linter.unusedSimpArgs false
namespace Go.Proofs.YthdbofgcckjopaaGreat
open Go.Vg Qp
/-- Where a round stands, whose tile is t: the first so many ways were looked at. -/
structure DI (N goal : Int) (fr : List Bool) (E : Int → Int → Int → Prop) (nbf st : Int → Int) (cost : Int) (cnt : Int) (L0 : Int) (d0 : List Int) (dn : List Bool) (i : Int) (d : List Int) (M : List Itm) : Prop where
  dl : (d.length : Int) = N
  len : (M.length : Int) ≤ L0 + i
  same : ∀ x, (0 ≤ x ∧ x < N) → gi dn x = true → gi d x = gi d0 x
  le : ∀ x, (0 ≤ x ∧ x < N) → 0 ≤ gi d0 x → 0 ≤ gi d x ∧ gi d x ≤ gi d0 x
  A : ∀ x ∈ M, (0 ≤ x.val ∧ x.val < N) ∧ 0 ≤ gi d x.val ∧ gi d x.val ≤ x.key ∧ cost ≤ x.key
  B : ∀ x, (0 ≤ x ∧ x < N) → 0 ≤ gi d x → ¬ gi dn x = true → (⟨gi d x, x⟩ : Itm) ∈ M
  rel : ∀ j, (0 ≤ j ∧ j < i) → 0 < st j → 0 ≤ gi d (nbf j) ∧ gi d (nbf j) ≤ cost + st j
  S : ∀ x, (0 ≤ x ∧ x < N) → x ≠ goal → 0 ≤ gi d x → ∃ u k, (0 ≤ u ∧ u < N) ∧ gi dn u = true ∧ E u x k ∧ 0 < k ∧ gi d u + k = gi d x
  Z : gi d goal = 0
  R : ∀ x, (0 ≤ x ∧ x < N) → -1 ≤ gi d x
  P : ∀ x, (0 ≤ x ∧ x < N) → 0 ≤ gi d x → gi fr x = true
  W : ∀ x, (0 ≤ x ∧ x < N) → gi d x ≤ 84 * (cnt + 1)
  V : ∀ x ∈ M, x.key ≤ 84 * (cnt + 1)
theorem from_bG {g : Grd} {c : Int} {fr0 fr : List Bool} {goal : Int} {f : Int → Option Bool} (hg : GOk g) (hc : 0 ≤ c ∧ c ≤ 2) (hf0 : (fr0.length : Int) = g.w * g.h) (hf : (fr.length : Int) = g.w * g.h) (hgo : 0 ≤ goal ∧ goal < g.w * g.h) (hfg0 : gi fr0 goal = gi fr goal)
    (hst : ∀ {t i : Int} {near : List Int}, (0 ≤ t ∧ t < g.w * g.h) → Nbs g t near → (0 ≤ i ∧ i < 8) → field_Net_Step ⟨g, c, fr0⟩ t near i f = some (stp g c fr t i)) :
    Ok (field_Net_From ⟨g, c, fr0⟩ goal f) fun d => (gi fr goal = true ∧ LD (g.w * g.h) (Ed g c fr) goal d ∧ (∀ t, (0 ≤ t ∧ t < g.w * g.h) → 0 ≤ gi d t → gi fr t = true) ∧ ∀ t, (0 ≤ t ∧ t < g.w * g.h) → gi d t ≤ 84 * 16384) ∨ (¬ gi fr goal = true ∧ d = List.replicate (g.w * g.h).toNat (-1)) := by
  have ha := hg.area
  have hgl := hg.2.2.1
  obtain ⟨N, hN⟩ : ∃ N, N = g.w * g.h := ⟨_, rfl⟩
  rw [← hN] at ha hgl hf hf0 hgo ⊢
  unfold field_Net_From
  have e1 : slices_Repeat_Int [(-1)] (((⟨g, c, fr0⟩ : Net).g.tiles.length : Nat) : Int) = some (List.replicate N.toNat (-1)) := by
    show slices_Repeat_Int [(-1)] (g.tiles.length : Int) = _
    unfold slices_Repeat_Int
    rw [if_pos ⟨rfl, by omega, by omega⟩, hgl]; rfl
  rw [e1, bsome]
  refine Ok.gd (by show 0 ≤ goal ∧ goal < (fr0.length : Int); omega) (Ok.ite (fun hfr => Ok.ret (.inr ⟨fun h => ?_, rfl⟩)) (fun hfr => ?_))
  · have hfr : (!(gi fr0 goal)) = true := hfr
    rw [hfg0, h] at hfr; cases hfr
  · have hfg : gi fr goal = true := by
      have hfr : ¬ (!(gi fr0 goal)) = true := hfr
      rw [hfg0] at hfr
      cases hh : gi fr goal with
      | true => rfl
      | false => rw [hh] at hfr; exact absurd rfl hfr
    have hrl : ((List.replicate N.toNat (-1 : Int)).length : Int) = N := by simp; omega
    have hrn : ((List.replicate N.toNat (-1 : Int)).length : Int).toNat = N.toNat := by omega
    rw [hrl]
    refine Ok.gd (by omega) (Ok.gd (by omega) ?_)
    have eq : queue_New = some (some ⟨[]⟩) := rfl
    rw [eq, bsome, bsome]
    have gd0 : ∀ t, (0 ≤ t ∧ t < N) → gi (si (List.replicate N.toNat (-1)) goal 0) t = if t = goal then 0 else -1 := fun t ht => by
      by_cases h : t = goal
      · subst h; rw [if_pos rfl]; exact gi_si_self ⟨ht.1, by omega⟩
      · rw [if_neg h, gi_si_ne hgo.1 ht.1 (Ne.symm h)]; exact gi_replicate ⟨ht.1, by omega⟩
    have gn0 : ∀ t, (0 ≤ t ∧ t < N) → gi (List.replicate N.toNat false) t = false := fun t ht => gi_replicate ⟨ht.1, by omega⟩
    have cn0 : (List.replicate N.toNat false).count true = 0 := by rw [List.count_replicate]; simp
    refine Ok.bind (push_p (q := ⟨[]⟩) (fun j h0 h1 => by simp at h1) (by simp) 0 goal) fun q1 hq1 => ?_
    have hq1l : q1.l.length = 1 := by have := hq1.2.length_eq; simpa using this
    have hmem : ∀ x, x ∈ q1.l ↔ x = ⟨0, goal⟩ := fun x => by rw [hq1.2.mem_iff]; simp
    have hJ : DJ N goal fr (Ed g c fr) (si (List.replicate N.toNat (-1)) goal 0) (List.replicate N.toNat false) q1.l := by
      refine ⟨by rw [len_si]; exact hrl, by simp; omega, fun x hx => ?_, fun t ht h0 _ => ?_, fun t ht hd => ?_, fun t ht hd => ?_, fun t ht hne h0 => ?_, ?_, fun t ht => ?_, fun t ht h0 => ?_, fun t ht => ?_, fun x hx => ?_⟩
      · rw [hmem] at hx; subst hx
        dsimp only
        rw [gd0 goal hgo, if_pos rfl]; omega
      · rw [gd0 t ht] at h0 ⊢
        by_cases h : t = goal
        · rw [if_pos h]; exact (hmem _).2 (by rw [h])
        · rw [if_neg h] at h0; omega
      · rw [gn0 t ht] at hd; cases hd
      · rw [gn0 t ht] at hd; cases hd
      · rw [gd0 t ht, if_neg hne] at h0; omega
      · rw [gd0 goal hgo, if_pos rfl]
      · rw [gd0 t ht]; split <;> omega
      · rw [gd0 t ht] at h0
        by_cases h : t = goal
        · rw [h]; exact hfg
        · rw [if_neg h] at h0; omega
      · rw [gd0 t ht, cn0]; split <;> omega
      · rw [hmem] at hx; subst hx; rw [cn0]; show (0 : Int) ≤ _; omega
    refine Ok.bind (pop_dh hq1.1 (by omega) (by rw [cn0]; omega) hJ) fun p0 hp0 => ?_
    have hcle : ∀ dn : List Bool, (dn.length : Int) = N → (dn.count true : Int) ≤ N := fun dn h => by have := List.count_le_length (a := true) (l := dn); omega
    refine Ok.bind (R := fun z : Que × List Int => LD N (Ed g c fr) goal z.2 ∧ (∀ t, (0 ≤ t ∧ t < N) → 0 ≤ gi z.2 t → gi fr t = true) ∧ ∀ t, (0 ≤ t ∧ t < N) → gi z.2 t ≤ 84 * 16384) (Ok.loop (DH N goal fr (Ed g c fr)) (fun z => (10 * (N - (z.2.2.2.2.1.count true : Int))).toNat + z.2.2.2.2.2.l.length + (if z.2.2.1 = true then 1 else 0)) ?_ ?_ ?_) (fun z hz => Ok.ret (.inl ⟨hfg, hz⟩))
    · exact hp0.1
    · have h1 := hp0.2
      unfold FUEL
      show (10 * (N - ((List.replicate N.toNat false).count true : Int))).toNat + p0.2.2.2.l.length + (if p0.2.2.1 = true then 1 else 0) < _
      rw [cn0]; omega
    · rintro ⟨cost, t, ok, d, dn, q⟩ ⟨hh, hlq, hj1, hj0⟩
      dsimp only at hh hlq hj1 hj0 ⊢
      refine Ok.ite (fun hok => ?_) (fun hok => Ok.ret ?_)
      · obtain ⟨hj, hmin⟩ := hj1 hok
        have hA := hj.A ⟨cost, t⟩ List.mem_cons_self
        dsimp only at hA
        have ht := hA.1
        have hnl := hj.nl
        have hdl := hj.dl
        have hcN := hcle dn hnl
        refine Ok.gd (by omega) (Ok.ite (fun hdt => ?_) (fun hdt => ?_))
        · -- it was there before
          have hj' : DJ N goal fr (Ed g c fr) d dn q.l := by
            refine ⟨hj.dl, hj.nl, fun x hx => hj.A x (List.mem_cons_of_mem _ hx), fun x hx h0 hd => ?_, hj.C, fun x hx hd y hy => hj.D x hx hd y (List.mem_cons_of_mem _ hy), hj.S, hj.Z, hj.R, hj.P, hj.W, fun x hx => hj.V x (List.mem_cons_of_mem _ hx)⟩
            rcases List.mem_cons.1 (hj.B x hx h0 hd) with h | h
            · cases h; exact absurd hdt hd
            · exact h
          refine Ok.bind (pop_dh hh (by omega) (by omega) hj') fun p hp => Ok.ret ⟨hp.1, ?_⟩
          have := hp.2
          show (10 * (N - (dn.count true : Int))).toNat + p.2.2.2.l.length + (if p.2.2.1 = true then 1 else 0) < (10 * (N - (dn.count true : Int))).toNat + q.l.length + (if ok = true then 1 else 0)
          rw [if_pos hok]; omega
        · -- a tile is done
          have hcost : gi d t = cost := by
            rcases List.mem_cons.1 (hj.B t ht hA.2.1 hdt) with h | h
            · exact congrArg Itm.key h
            · have := hmin _ h; dsimp only at this; omega
          have hcb : cost ≤ 84 * (dn.count true : Int) := hj.V ⟨cost, t⟩ List.mem_cons_self
          refine Ok.gd (by omega) ?_
          refine Ok.bind (beside_b hg (t := t) (by rw [← hN]; exact ht)) fun near hnear => ?_
          have hnl8 := hnear.1
          refine Ok.gd ⟨by simp, hnl8⟩ (Ok.gd hnl8 ?_)
          obtain ⟨dn1, hdn1⟩ : ∃ dn1, dn1 = si dn t true := ⟨_, rfl⟩
          have hd1l : (dn1.length : Int) = N := by rw [hdn1, len_si]; exact hnl
          have hcnt : (dn1.count true : Int) = dn.count true + 1 := by rw [hdn1]; exact count_si ⟨ht.1, by omega⟩ hdt
          have hd1 : ∀ x, (0 ≤ x ∧ x < N) → (gi dn1 x = true ↔ x = t ∨ gi dn x = true) := fun x hx => by
            rw [hdn1]
            by_cases h : x = t
            · subst h; rw [gi_si_self ⟨hx.1, by omega⟩]; simp
            · rw [gi_si_ne ht.1 hx.1 (Ne.symm h)]; simp [h]
          rw [← hdn1]
          have hbE : ∀ {x u k : Int}, (0 ≤ x ∧ x < N) → Ed g c fr x u k → (0 ≤ u ∧ u < N) ∧ gi fr u = true ∧ 0 < k ∧ k ≤ 84 := fun hx h => by
            have := h.bd hg hc (by rw [← hN]; exact hx)
            rw [← hN] at this; exact this
          refine Ok.bind (R := fun z : Que × List Int => Heap z.1.l ∧ DI N goal fr (Ed g c fr) (nb g t) (stp g c fr t) cost (dn.count true) q.l.length d dn1 8 z.2 z.1.l)
            (Ok.loop (fun z : Int × List Int × Que => (0 ≤ z.1 ∧ z.1 ≤ 8) ∧ Heap z.2.2.l ∧ DI N goal fr (Ed g c fr) (nb g t) (stp g c fr t) cost (dn.count true) q.l.length d dn1 z.1 z.2.1 z.2.2.l) (fun z => (8 - z.1).toNat) ⟨by simp, hh, ?_⟩ (by unfold FUEL; simp) ?_) ?_
          · refine ⟨hdl, by simp, fun _ _ _ => rfl, fun x hx h0 => ⟨h0, Int.le_refl _⟩, fun x hx => ?_, fun x hx h0 hd => ?_, fun j hj' => (by have h1 : 0 ≤ j := hj'.1; have h2 : j < 0 := hj'.2; omega), fun x hx hne h0 => ?_, hj.Z, hj.R, hj.P, fun x hx => ?_, fun x hx => ?_⟩
            · have h1 := hj.A x (List.mem_cons_of_mem _ hx)
              exact ⟨h1.1, h1.2.1, h1.2.2, hmin x hx⟩
            · have hne : ¬ (x = t ∨ gi dn x = true) := fun h => hd ((hd1 x hx).2 h)
              rcases List.mem_cons.1 (hj.B x hx h0 (fun h => hne (.inr h))) with h | h
              · cases h; exact absurd (.inl rfl) hne
              · exact h
            · obtain ⟨u, k, hu, hdu, h1⟩ := hj.S x hx hne h0
              exact ⟨u, k, hu, (hd1 u hu).2 (.inr hdu), h1⟩
            · have := hj.W x hx; show gi d x ≤ _; omega
            · have := hj.V x (List.mem_cons_of_mem _ hx); omega
          · rintro ⟨i, d1, q1⟩ ⟨⟨i0, i1⟩, hh1, hI⟩
            dsimp only at i0 i1 hh1 hI ⊢
            refine Ok.ite (fun hi => ?_) (fun hi => Ok.ret ?_)
            rotate_left
            · obtain rfl : i = 8 := by omega
              exact ⟨hh1, hI⟩
            refine Ok.gd ⟨i0, hi, hnl8⟩ (Ok.gd hnl8 ?_)
            have hi8 : 0 ≤ i ∧ i < 8 := ⟨i0, hi⟩
            rw [hst (by rw [← hN]; exact ht) hnear hi8, bsome, hnear.2 i i0 hi]
            have hsb := stp_bd (fr := fr) (i := i) hg hc (t := t) (by rw [← hN]; exact ht)
            have hu : 0 < stp g c fr t i → (0 ≤ nb g t i ∧ nb g t i < N) ∧ gi fr (nb g t i) = true := fun h => by
              have := stp_fr h
              exact ⟨⟨this.1, by rw [hN]; exact nb_bd hg this.1⟩, this.2⟩
            have hd1l' := hI.dl
            have hmlen := hI.len
            refine Ok.gd (fun h => by have := hu h; omega) (Ok.gd (fun h => by have := hu h.1; omega) (Ok.gd (fun h _ => by unfold I64; omega) (Ok.gd (fun h _ => by have := hu h.1; omega) (Ok.ite (fun hcnd => ?_) (fun hcnd => ?_)))))
            · obtain ⟨⟨hs, hnd⟩, hless⟩ := hcnd
              obtain ⟨hub, huf⟩ := hu hs
              have hnd' : ¬ gi dn1 (nb g t i) = true := fun h => by rw [h] at hnd; cases hnd
              refine Ok.gd (by unfold I64; omega) (Ok.gd (by omega) (Ok.gd (by unfold I64; omega) ?_))
              refine Ok.bind (push_p hh1 (by omega) (cost + stp g c fr t i) (nb g t i)) fun q2 hq2 => ?_
              refine Ok.gd (by unfold I64; omega) (Ok.ret ⟨⟨by show 0 ≤ i + 1 ∧ i + 1 ≤ 8; omega, hq2.1, ?_⟩, by show (8 - (i + 1)).toNat < _; omega⟩)
              show DI N goal fr (Ed g c fr) (nb g t) (stp g c fr t) cost (dn.count true) q.l.length d dn1 (i + 1) (si d1 (nb g t i) (cost + stp g c fr t i)) q2.l
              obtain ⟨u, huE⟩ : ∃ u, u = nb g t i := ⟨_, rfl⟩
              obtain ⟨s, hsE⟩ : ∃ s, s = stp g c fr t i := ⟨_, rfl⟩
              rw [← huE] at hub huf hnd' hless hq2 ⊢
              rw [← hsE] at hs hless hsb hq2 ⊢
              have hgs : ∀ x, (0 ≤ x ∧ x < N) → gi (si d1 u (cost + s)) x = if x = u then cost + s else gi d1 x := fun x hx => by
                by_cases h : x = u
                · subst h; rw [if_pos rfl]; exact gi_si_self ⟨hx.1, by omega⟩
                · rw [if_neg h]; exact gi_si_ne hub.1 hx.1 (Ne.symm h)
              have hmem2 : ∀ x, x ∈ q2.l ↔ x = ⟨cost + s, u⟩ ∨ x ∈ q1.l := fun x => by rw [hq2.2.mem_iff]; simp
              have hc0 : 0 ≤ cost := by omega
              have hdec : 0 ≤ gi d1 u → cost + s < gi d1 u := fun h => by omega
              refine ⟨by rw [len_si]; exact hI.dl, ?_, fun x hx hd => ?_, fun x hx h0 => ?_, fun x hx => ?_, fun x hx h0 hd => ?_, fun j hj' hsj => ?_, fun x hx hne h0 => ?_, ?_, fun x hx => ?_, fun x hx h0 => ?_, fun x hx => ?_, fun x hx => ?_⟩
              · have := hq2.2.length_eq
                simp at this; omega
              · rw [hgs x hx, if_neg (fun h => hnd' (by rw [← h]; exact hd))]; exact hI.same x hx hd
              · rw [hgs x hx]
                have h1 := hI.le x hx h0
                by_cases h : x = u
                · rw [if_pos h]; subst h; have := hdec h1.1; omega
                · rw [if_neg h]; exact h1
              · rcases (hmem2 x).1 hx with rfl | hx
                · dsimp only
                  rw [hgs u hub, if_pos rfl]
                  exact ⟨hub, by omega, Int.le_refl _, by omega⟩
                · have h1 := hI.A x hx
                  rw [hgs x.val h1.1]
                  refine ⟨h1.1, ?_⟩
                  by_cases h : x.val = u
                  · rw [if_pos h]
                    have h2 : 0 ≤ gi d1 u := by rw [← h]; exact h1.2.1
                    have := hdec h2
                    rw [h] at h1
                    omega
                  · rw [if_neg h]; exact h1.2
              · rw [hgs x hx] at h0 ⊢
                by_cases h : x = u
                · subst h; rw [if_pos rfl]; exact (hmem2 _).2 (.inl rfl)
                · rw [if_neg h] at h0 ⊢; exact (hmem2 _).2 (.inr (hI.B x hx h0 hd))
              · by_cases hji : j = i
                · subst hji
                  rw [← huE, ← hsE, hgs u hub, if_pos rfl]; omega
                · have h1 := hI.rel j ⟨hj'.1, by have := hj'.2; omega⟩ hsj
                  have h2 := stp_fr hsj
                  have h3 : nb g t j < N := by rw [hN]; exact nb_bd hg h2.1
                  rw [hgs _ ⟨h2.1, h3⟩]
                  by_cases h : nb g t j = u
                  · rw [if_pos h]
                    rw [h] at h1
                    have := hdec h1.1
                    omega
                  · rw [if_neg h]; exact h1
              · rw [hgs x hx] at h0
                by_cases h : x = u
                · subst h
                  refine ⟨t, s, ht, (hd1 t ht).2 (.inl rfl), ⟨i, hi8, huE.symm, hsE.symm, hs⟩, hs, ?_⟩
                  have hne2 : t ≠ x := fun h => hnd' ((hd1 x hx).2 (.inl h.symm))
                  rw [hgs x hx, if_pos rfl, hgs t ht, if_neg hne2, hI.same t ht ((hd1 t ht).2 (.inl rfl)), hcost]
                · rw [if_neg h] at h0
                  obtain ⟨v, k, hv, hdv, h1, h2, h3⟩ := hI.S x hx hne h0
                  refine ⟨v, k, hv, hdv, h1, h2, ?_⟩
                  rw [hgs x hx, if_neg h, hgs v hv, if_neg (fun h => hnd' (by rw [← h]; exact hdv))]; exact h3
              · rw [hgs goal hgo]
                by_cases h : goal = u
                · have h1 := hI.Z
                  rw [h] at h1
                  have := hdec (by omega)
                  omega
                · rw [if_neg h]; exact hI.Z
              · rw [hgs x hx]; split
                · omega
                · exact hI.R x hx
              · rw [hgs x hx] at h0
                by_cases h : x = u
                · rw [h]; exact huf
                · rw [if_neg h] at h0; exact hI.P x hx h0
              · rw [hgs x hx]; split
                · omega
                · exact hI.W x hx
              · rcases (hmem2 x).1 hx with rfl | hx
                · show cost + s ≤ _; omega
                · exact hI.V x hx
            · refine Ok.gd (by unfold I64; omega) (Ok.ret ⟨⟨by show 0 ≤ i + 1 ∧ i + 1 ≤ 8; omega, hh1, ?_⟩, by show (8 - (i + 1)).toNat < _; omega⟩)
              refine ⟨hI.dl, by show (q1.l.length : Int) ≤ _ + (i + 1); omega, hI.same, hI.le, hI.A, hI.B, fun j hj' hsj => ?_, hI.S, hI.Z, hI.R, hI.P, hI.W, hI.V⟩
              by_cases hji : j = i
              · subst hji
                obtain ⟨hub, huf⟩ := hu hsj
                by_cases hdu : gi dn1 (nb g t j) = true
                · have h1 := hI.same _ hub hdu
                  show 0 ≤ gi d1 (nb g t j) ∧ gi d1 (nb g t j) ≤ cost + stp g c fr t j
                  rw [h1]
                  rcases (hd1 _ hub).1 hdu with h2 | h2
                  · rw [h2, hcost]; omega
                  · have h3 := (hj.C _ hub h2).1
                    have h4 := hj.D _ hub h2 ⟨cost, t⟩ List.mem_cons_self
                    dsimp only at h4
                    omega
                · apply Classical.byContradiction; intro hn
                  have hn : ¬ (0 ≤ gi d1 (nb g t j) ∧ gi d1 (nb g t j) ≤ cost + stp g c fr t j) := hn
                  apply hcnd
                  refine ⟨⟨hsj, ?_⟩, by omega⟩
                  cases hh : gi dn1 (nb g t j) with
                  | true => exact absurd hh hdu
                  | false => rfl
              · exact hI.rel j ⟨hj'.1, by have : j < i + 1 := hj'.2; omega⟩ hsj
          · rintro ⟨q1, d1⟩ ⟨hh1, hI⟩
            dsimp only at hh1 hI ⊢
            have hmlen := hI.len
            have hJ1 : DJ N goal fr (Ed g c fr) d1 dn1 q1.l := by
              refine ⟨hI.dl, hd1l, fun x hx => ⟨(hI.A x hx).1, (hI.A x hx).2.1, (hI.A x hx).2.2.1⟩, hI.B, fun x hx hd => ?_, fun x hx hd y hy => ?_, hI.S, hI.Z, hI.R, hI.P, fun x hx => by rw [hcnt]; exact hI.W x hx, fun x hx => by rw [hcnt]; exact hI.V x hx⟩
              · rw [hI.same x hx hd]
                rcases (hd1 x hx).1 hd with h | h
                · subst h
                  refine ⟨hA.2.1, fun u k hE => ?_⟩
                  obtain ⟨j, hj8, rfl, rfl, hk⟩ := hE
                  have := hI.rel j hj8 hk
                  rw [hcost]; exact this
                · have h1 := hj.C x hx h
                  refine ⟨h1.1, fun u k hE => ?_⟩
                  have h2 := h1.2 u k hE
                  have h3 := hI.le u (hbE hx hE).1 h2.1
                  omega
              · have h1 := (hI.A y hy).2.2.2
                rw [hI.same x hx hd]
                rcases (hd1 x hx).1 hd with h | h
                · rw [h, hcost]; exact h1
                · have := hj.D x hx h ⟨cost, t⟩ List.mem_cons_self
                  dsimp only at this; omega
            refine Ok.bind (pop_dh hh1 (by omega) (by rw [hcnt]; omega) hJ1) fun p hp => Ok.ret ⟨hp.1, ?_⟩
            have h1 := hp.2
            have h2 := hcle dn1 hd1l
            show (10 * (N - (dn1.count true : Int))).toNat + p.2.2.2.l.length + (if p.2.2.1 = true then 1 else 0) < (10 * (N - (dn.count true : Int))).toNat + q.l.length + (if ok = true then 1 else 0)
            rw [if_pos hok, hcnt]
            omega
      · have hokf : ok = false := by cases ok <;> simp_all
        obtain ⟨hj, _⟩ := hj0 hokf
        have := hcle dn hj.nl
        exact ⟨hj.fin, hj.P, fun t ht => by have := hj.W t ht; show gi d t ≤ _; omega⟩
theorem from_b {g : Grd} {c : Int} {fr : List Bool} {goal : Int} {f : Int → Option Bool} (hg : GOk g) (hc : 0 ≤ c ∧ c ≤ 2) (hf : (fr.length : Int) = g.w * g.h) (hgo : 0 ≤ goal ∧ goal < g.w * g.h) (he : ∀ u, f u = some true) :
    Ok (field_Net_From ⟨g, c, fr⟩ goal f) fun d => (gi fr goal = true ∧ LD (g.w * g.h) (Ed g c fr) goal d ∧ (∀ t, (0 ≤ t ∧ t < g.w * g.h) → 0 ≤ gi d t → gi fr t = true) ∧ ∀ t, (0 ≤ t ∧ t < g.w * g.h) → gi d t ≤ 84 * 16384) ∨ (¬ gi fr goal = true ∧ d = List.replicate (g.w * g.h).toNat (-1)) :=
  from_bG hg hc hf hf hgo rfl fun ht hn hi => step_p hg hc hf ht hn hi he
end Go.Proofs.YthdbofgcckjopaaGreat
set_option linter.unusedVariables false
set_option linter.unusedSimpArgs false
namespace Go.Proofs.YthdbofgcckjopaaGreat
open Go.Vg
theorem KP.nn {g : Grd} {o : List Bool} {k : List Int} (hg : GOk g) (h : KS g o k) (x y : Int) : 0 ≤ KP g k x y := by
  by_cases ho : On g x y
  · rw [KP.on ho]; have := ho.bd hg; exact (h.bd _ this.1.1 this.1.2).1
  · rw [KP.off ho]; exact Int.le_refl _
theorem KS.mono {g : Grd} {o o' : List Bool} {k k' : List Int} (hg : GOk g) (h : KS g o k) (h' : KS g o' k') (ho : ∀ t : Int, 0 ≤ t → t < g.w * g.h → gi o t = true → gi o' t = true) : ∀ x y, KP g k x y ≤ KP g k' x y := by
  have key : ∀ (n : Nat) x y, KP g k' x y ≤ n → KP g k x y ≤ KP g k' x y := by
    intro n
    induction n with
    | zero =>
      intro x y hn
      by_cases hon : On g x y
      · by_cases hop : gi o' (x + g.w * y) = true
        · obtain ⟨dx, dy, h1, h2, h3⟩ := h'.sup x y hon hop
          have := KP.nn hg h' (x + dx) (y + dy)
          omega
        · have hb := (hon.bd hg).1
          rw [h.zero x y hon (fun e => hop (ho _ hb.1 hb.2 e))]; exact KP.nn hg h' x y
      · rw [KP.off hon, KP.off hon]; exact Int.le_refl _
    | succ n ih =>
      intro x y hn
      by_cases hon : On g x y
      · by_cases hop : gi o' (x + g.w * y) = true
        · obtain ⟨dx, dy, h1, h2, h3⟩ := h'.sup x y hon hop
          have h4 := ih (x + dx) (y + dy) (by omega)
          have h5 := h.lip x y dx dy hon h1 h2
          omega
        · have hb := (hon.bd hg).1
          rw [h.zero x y hon (fun e => hop (ho _ hb.1 hb.2 e))]; exact KP.nn hg h' x y
      · rw [KP.off hon, KP.off hon]; exact Int.le_refl _
  exact fun x y => key (KP g k' x y).toNat x y (by have := KP.nn hg h' x y; omega)
theorem KS.gi_le {g : Grd} {o o' : List Bool} {k k' : List Int} (hg : GOk g) (h : KS g o k) (h' : KS g o' k') (ho : ∀ t : Int, 0 ≤ t → t < g.w * g.h → gi o t = true → gi o' t = true) : ∀ t : Int, 0 ≤ t → t < g.w * g.h → gi k t ≤ gi k' t := fun t t0 t1 => by
  obtain ⟨hon, he⟩ := On.of hg ⟨t0, t1⟩
  have := KS.mono hg h h' ho (t % g.w) (t / g.w)
  rw [KP.on hon, KP.on hon, he] at this
  exact this
/-- Which tiles are good, of a ground with buildings, for a class and a size. -/
def GdF (g : Grd) (l : List Bld) (c s : Int) (fr : List Bool) : Prop := ∃ o k, OpR g l c o ∧ KS g o k ∧ GdR g k s fr
theorem GdF.sub {g : Grd} {l : List Bld} {c s s' : Int} {tl : List UInt8} {fr fr' : List Bool} (hg : GOk g) (hg' : GOk ⟨g.w, g.h, tl⟩) (h : GdF g l c s fr) (h' : GdF ⟨g.w, g.h, tl⟩ l c s' fr') (hs : s' ≤ s)
    (ht : ∀ t : Int, 0 ≤ t → t < g.w * g.h → 0 < pr c ((gi g.tiles t).toNat : Int) → 0 < pr c ((gi tl t).toNat : Int)) : ∀ t : Int, 0 ≤ t → t < g.w * g.h → gi fr t = true → gi fr' t = true := by
  obtain ⟨o, k, ho, hk, hf⟩ := h
  obtain ⟨o', k', ho', hk', hf'⟩ := h'
  have hgl := hg.2.2.1
  have hgl' : (tl.length : Int) = g.w * g.h := hg'.2.2.1
  have hk2 : KS g o' k' := ⟨hk'.len, hk'.bd, hk'.zero, hk'.lip, hk'.sup⟩
  intro t t0 t1 hfr
  have h1 := (hf.2 t t0 t1).1 hfr
  refine (hf'.2 t t0 t1).2 ?_
  have := KS.gi_le hg hk hk2 (fun u u0 u1 hu => ?_) t t0 t1
  · omega
  · have h2 := (ho.2 u u0 (by omega)).1 hu
    exact (ho'.2 u u0 (by show u < (tl.length : Int); omega)).2 ⟨h2.1, ht u u0 u1 h2.2⟩
theorem GdF.len {g : Grd} {l : List Bld} {c s : Int} {fr : List Bool} (h : GdF g l c s fr) : (fr.length : Int) = g.w * g.h := by
  obtain ⟨o, k, ho, hk, hf⟩ := h
  exact hf.1
theorem GdF.uniq {g : Grd} {l : List Bld} {c s : Int} {fr fr' : List Bool} (hg : GOk g) (h : GdF g l c s fr) (h' : GdF g l c s fr') : fr = fr' := by
  have a := GdF.sub (tl := g.tiles) hg hg h h' (Int.le_refl _) (fun _ _ _ h => h)
  have b := GdF.sub (tl := g.tiles) hg hg h' h (Int.le_refl _) (fun _ _ _ h => h)
  refine ext_gi (by have := h.len; have := h'.len; omega) fun t t0 t1 => ?_
  have := h.len
  exact Bool.eq_iff_iff.2 ⟨a t t0 (by omega), b t t0 (by omega)⟩
theorem GdF.open {g : Grd} {l : List Bld} {c s : Int} {fr : List Bool} (hg : GOk g) (hs : 0 ≤ s) (h : GdF g l c s fr) : ∀ t : Int, 0 ≤ t → t < g.w * g.h → gi fr t = true → 0 < tc g c t := by
  obtain ⟨o, k, ho, hk, hf⟩ := h
  intro t t0 t1 hfr
  have h1 := (hf.2 t t0 t1).1 hfr
  have hgl := hg.2.2.1
  obtain ⟨hon, he⟩ := On.of hg ⟨t0, t1⟩
  have h2 : gi o t = true := Classical.byContradiction fun hn => by
    have h3 := hk.zero _ _ hon (by rw [he]; exact hn)
    rw [KP.on hon, he] at h3
    omega
  exact ((ho.2 t t0 (by omega)).1 h2).2
/-- How far it is. -/
structure MkR (g : Grd) (c goal : Int) (fr : List Bool) (d : List Int) : Prop where
  len : (d.length : Int) = g.w * g.h
  bd : ∀ t : Int, (0 ≤ t ∧ t < g.w * g.h) → -1 ≤ gi d t ∧ gi d t ≤ 84 * 16384
  free : ∀ t : Int, (0 ≤ t ∧ t < g.w * g.h) → 0 ≤ gi d t → gi fr t = true
  is : (gi fr goal = true ∧ LD (g.w * g.h) (Ed g c fr) goal d) ∨ (¬ gi fr goal = true ∧ ∀ t : Int, (0 ≤ t ∧ t < g.w * g.h) → gi d t = -1)
theorem MkR.uniq {g : Grd} {c goal : Int} {fr : List Bool} {d d' : List Int} (h : MkR g c goal fr d) (h' : MkR g c goal fr d') : d = d' := by
  rcases h.is with ⟨a, b⟩ | ⟨a, b⟩ <;> rcases h'.is with ⟨a', b'⟩ | ⟨a', b'⟩
  · exact b.uniq b'
  · exact absurd a a'
  · exact absurd a' a
  · refine ext_gi (by have := h.len; have := h'.len; omega) fun t t0 t1 => ?_
    have := h.len
    rw [b t ⟨t0, by omega⟩, b' t ⟨t0, by omega⟩]
theorem MkR.le {g : Grd} {c goal : Int} {fr fr' : List Bool} {d d' : List Int} {tl : List UInt8} (hg : GOk g) (hg' : GOk ⟨g.w, g.h, tl⟩) (hgo : 0 ≤ goal ∧ goal < g.w * g.h) (h : MkR g c goal fr d) (h' : MkR ⟨g.w, g.h, tl⟩ c goal fr' d')
    (hf : ∀ t : Int, 0 ≤ t → t < g.w * g.h → gi fr t = true → gi fr' t = true ∧ 0 < tc ⟨g.w, g.h, tl⟩ c t ∧ tc ⟨g.w, g.h, tl⟩ c t ≤ tc g c t) : ∀ t : Int, (0 ≤ t ∧ t < g.w * g.h) → 0 ≤ gi d t → 0 ≤ gi d' t ∧ gi d' t ≤ gi d t := by
  rcases h.is with ⟨a, b⟩ | ⟨a, b⟩
  · rcases h'.is with ⟨a', b'⟩ | ⟨a', b'⟩
    · refine LD.le b b' fun t u k ht hd hE => ?_
      obtain ⟨i, hi, rfl, rfl, hk⟩ := hE
      have key : 0 < stp ⟨g.w, g.h, tl⟩ c fr' t i ∧ stp ⟨g.w, g.h, tl⟩ c fr' t i ≤ stp g c fr t i := by
        have hfrt := hf t ht.1 ht.2 (h.free t ht hd)
        have hu := stp_fr hk
        have hub := nb_bd hg hu.1
        have hfru := hf _ hu.1 hub hu.2
        have ex : ∀ j : Int, Fr fr (nb g t j) → Fr fr' (nb ⟨g.w, g.h, tl⟩ t j) := fun j hj => ⟨hj.1, (hf _ hj.1 (nb_bd hg hj.1) hj.2).1⟩
        have e : tc ⟨g.w, g.h, tl⟩ c (nb ⟨g.w, g.h, tl⟩ t i) = tc ⟨g.w, g.h, tl⟩ c (nb g t i) := rfl
        unfold stp at hk ⊢
        rw [if_pos hu] at hk ⊢
        rw [if_pos (ex i hu), e]
        by_cases h4 : i < 4
        · simp only [if_pos h4] at hk ⊢
          omega
        · simp only [if_neg h4] at hk ⊢
          by_cases h5 : Fr fr (nb g t (Sd1 i)) ∧ Fr fr (nb g t (Sd2 i))
          · rw [if_pos h5] at hk ⊢
            rw [if_pos ⟨ex _ h5.1, ex _ h5.2⟩]
            omega
          · rw [if_neg h5] at hk; omega
      exact ⟨_, key.2, i, hi, rfl, rfl, key.1⟩
    · exact absurd (hf goal hgo.1 hgo.2 a).1 a'
  · intro t ht h0
    rw [b t ht] at h0; omega
theorem from_m {g : Grd} {c : Int} {fr : List Bool} {goal : Int} {f : Int → Option Bool} (hg : GOk g) (hc : 0 ≤ c ∧ c ≤ 2) (hf : (fr.length : Int) = g.w * g.h) (hgo : 0 ≤ goal ∧ goal < g.w * g.h) (he : ∀ u, f u = some true) :
    Ok (field_Net_From ⟨g, c, fr⟩ goal f) (MkR g c goal fr) := by
  have ha := hg.area
  refine Ok.mono (from_b hg hc hf hgo he) ?_
  rintro d (⟨h1, h2, h3, h4⟩ | ⟨h1, rfl⟩)
  · exact ⟨h2.len, fun t ht => ⟨h2.ge t ht.1 ht.2, h4 t ht⟩, h3, .inl ⟨h1, h2⟩⟩
  · have e : ∀ t : Int, (0 ≤ t ∧ t < g.w * g.h) → gi (List.replicate (g.w * g.h).toNat (-1 : Int)) t = -1 := fun t ht => gi_replicate ⟨ht.1, by omega⟩
    exact ⟨by simp; omega, fun t ht => by rw [e t ht]; omega, fun t ht h => by rw [e t ht] at h; omega, .inr ⟨h1, e⟩⟩
theorem ask_p {g : Grd} {l : List Bld} {c s goal : Int} (h : AOk g l c s) (hgt : g.tiles.length ≤ 9223372036854775806) (hl : l.length ≤ 9223372036854775806) : field_ask g l c s goal = some (if 0 ≤ goal ∧ goal < g.w * g.h then 0 else 3) := by
  have ha := h.1.1.area
  unfold field_ask
  rw [(mayF_b hgt hl).t h, bsome, if_neg (by simp)]
  unfold ground_Is
  rw [if_pos (fun _ => by unfold I64; omega), bsome]
  by_cases hh : 0 ≤ goal ∧ goal < g.w * g.h
  · rw [if_pos hh, decide_eq_true hh, if_neg (by simp)]
  · rw [if_neg hh, decide_eq_false hh, if_pos (by simp)]
theorem fit_f {g : Grd} {l : List Bld} {c s : Int} (h : AOk g l c s) : Ok (field_Fit g l c s) (GdF g l c s) := fit_b h.1.1 h.1.2 h.2.1 s
theorem make_b {g : Grd} {l : List Bld} {c s goal : Int} (h : AOk g l c s) (hgo : 0 ≤ goal ∧ goal < g.w * g.h) (hgt : g.tiles.length ≤ 9223372036854775806) (hl : l.length ≤ 9223372036854775806) : Ok (field_Make g l c s goal) fun r => r.2 = 0 ∧ ∃ fr, GdF g l c s fr ∧ MkR g c goal fr r.1 := by
  unfold field_Make
  rw [ask_p h hgt hl, if_pos hgo, bsome, if_neg (by omega)]
  unfold field_Open
  obtain ⟨fr, e, hfr⟩ := fit_f h
  rw [e, bsome, bsome]
  exact Ok.bind (from_m (g := g) h.1.1 h.2.1 hfr.len hgo (fun _ => rfl)) fun d hd => Ok.ret ⟨rfl, fr, hfr, hd⟩
theorem tile13_p {g : Grd} (hg : GOk g) (t : Int) : throngref5_Tile g t = some (decide (0 ≤ t ∧ t < g.w * g.h)) := by
  have ha := hg.area
  unfold throngref5_Tile
  rw [if_pos (fun _ => by unfold I64; omega)]
end Go.Proofs.YthdbofgcckjopaaGreat
set_option linter.unusedVariables false
set_option linter.unusedSimpArgs false
namespace Go.Proofs.YthdbofgcckjopaaGreat
open Go.Vg
/-- Free, told by where it lies. -/
def FO (g : Grd) (fr : List Bool) (x y : Int) : Prop := On g x y ∧ gi fr (x + g.w * y) = true
theorem nb_on {g : Grd} (hg : GOk g) {fr : List Bool} {t i : Int} : Fr fr (nb g t i) ↔ FO g fr (t % g.w + DX i) (t / g.w + DY i) := by
  unfold Fr FO nb
  by_cases h : On g (t % g.w + DX i) (t / g.w + DY i)
  · rw [if_pos h]; exact ⟨fun e => ⟨h, e.2⟩, fun e => ⟨(h.bd hg).1.1, e.2⟩⟩
  · rw [if_neg h]; exact ⟨fun e => by omega, fun e => absurd e.1 h⟩
theorem nb_at {g : Grd} {t i : Int} (h : On g (t % g.w + DX i) (t / g.w + DY i)) : nb g t i = t % g.w + DX i + g.w * (t / g.w + DY i) := by unfold nb; rw [if_pos h]
theorem way_lt {i : Int} (h : 0 ≤ i ∧ i < 8) : (i < 4 ↔ DX i = 0 ∨ DY i = 0) := by
  obtain ⟨a, ha⟩ : ∃ a : Fin 8, ((a.val : Nat) : Int) = i := ⟨⟨i.toNat, by omega⟩, by simp; omega⟩
  subst ha
  revert a
  decide +kernel
theorem way_sd {i : Int} (h : 0 ≤ i ∧ i < 8) (h4 : ¬ i < 4) : (DX (Sd1 i) = DX i ∧ DY (Sd1 i) = 0 ∧ DX (Sd2 i) = 0 ∧ DY (Sd2 i) = DY i) ∨ (DX (Sd2 i) = DX i ∧ DY (Sd2 i) = 0 ∧ DX (Sd1 i) = 0 ∧ DY (Sd1 i) = DY i) := by
  obtain ⟨a, ha⟩ : ∃ a : Fin 8, ((a.val : Nat) : Int) = i := ⟨⟨i.toNat, by omega⟩, by simp; omega⟩
  subst ha
  revert a
  decide +kernel
/-- A step from (x, y) by (a, b). -/
structure SE (g : Grd) (c : Int) (fr : List Bool) (x y a b k : Int) : Prop where
  a1 : -1 ≤ a ∧ a ≤ 1
  b1 : -1 ≤ b ∧ b ≤ 1
  ne : ¬ (a = 0 ∧ b = 0)
  to : FO g fr (x + a) (y + b)
  cost : k = (if a = 0 ∨ b = 0 then 5 else 7) * (tc g c (x + g.w * y) + tc g c (x + a + g.w * (y + b)))
  sd : (a = 0 ∨ b = 0) ∨ (FO g fr (x + a) y ∧ FO g fr x (y + b))
  pos : 0 < k
theorem stp_at {g : Grd} {c : Int} {fr : List Bool} (hg : GOk g) {t i : Int} (ht : 0 ≤ t ∧ t < g.w * g.h) (hi : 0 ≤ i ∧ i < 8) (h : 0 < stp g c fr t i) : SE g c fr (t % g.w) (t / g.w) (DX i) (DY i) (stp g c fr t i) := by
  have hd := dd_bd hi
  have hu := stp_fr h
  have ho := (nb_on hg).1 hu
  have he := (On.of hg ht).2
  have hn := nb_at ho.1
  have hw := way_lt hi
  refine ⟨hd.1, hd.2.1, hd.2.2, ho, ?_, ?_, h⟩
  · unfold stp at h ⊢
    rw [if_pos hu] at h ⊢
    rw [he, ← hn]
    by_cases h4 : i < 4
    · rw [if_pos h4, if_pos (hw.1 h4)]
    · rw [if_neg h4] at h ⊢
      rw [if_neg (fun e => h4 (hw.2 e))]
      split
      · rfl
      · rename_i h5; rw [if_neg h5] at h; omega
  · by_cases h4 : i < 4
    · exact .inl (hw.1 h4)
    · unfold stp at h
      rw [if_pos hu, if_neg h4] at h
      split at h
      · rename_i h5
        have h1 := (nb_on hg).1 h5.1
        have h2 := (nb_on hg).1 h5.2
        rcases way_sd hi h4 with ⟨e1, e2, e3, e4⟩ | ⟨e1, e2, e3, e4⟩
        · rw [e1, e2] at h1; rw [e3, e4] at h2
          rw [Int.add_zero] at h1 h2
          exact .inr ⟨h1, h2⟩
        · rw [e1, e2] at h2; rw [e3, e4] at h1
          rw [Int.add_zero] at h1 h2
          exact .inr ⟨h2, h1⟩
      · omega
theorem SE.way {g : Grd} {c : Int} {fr : List Bool} (hg : GOk g) {t a b k : Int} (ht : 0 ≤ t ∧ t < g.w * g.h) (h : SE g c fr (t % g.w) (t / g.w) a b k) : ∃ i, (0 ≤ i ∧ i < 8) ∧ DX i = a ∧ DY i = b ∧ nb g t i = t % g.w + a + g.w * (t / g.w + b) ∧ stp g c fr t i = k := by
  obtain ⟨i, hi, rfl, rfl⟩ := dd_of h.a1 h.b1 h.ne
  have hn := nb_at h.to.1
  have hu := (nb_on hg).2 h.to
  have he := (On.of hg ht).2
  have hw := way_lt hi
  refine ⟨i, hi, rfl, rfl, hn, ?_⟩
  have hk := h.cost
  rw [he, ← hn] at hk
  unfold stp
  rw [if_pos hu]
  by_cases h4 : i < 4
  · rw [if_pos h4, hk, if_pos (hw.1 h4)]
  · rw [if_neg h4]
    rw [if_neg (fun e => h4 (hw.2 e))] at hk
    rcases h.sd with hs | hs
    · exact absurd (hw.2 hs) h4
    · have : Fr fr (nb g t (Sd1 i)) ∧ Fr fr (nb g t (Sd2 i)) := by
        rw [nb_on hg, nb_on hg]
        rcases way_sd hi h4 with ⟨e1, e2, e3, e4⟩ | ⟨e1, e2, e3, e4⟩
        · rw [e1, e2, e3, e4, Int.add_zero, Int.add_zero]; exact hs
        · rw [e1, e2, e3, e4, Int.add_zero, Int.add_zero]; exact ⟨hs.2, hs.1⟩
      rw [if_pos this, hk]
theorem Ed.iff {g : Grd} {c : Int} {fr : List Bool} (hg : GOk g) {t u k : Int} (ht : 0 ≤ t ∧ t < g.w * g.h) : Ed g c fr t u k ↔ ∃ a b, u = t % g.w + a + g.w * (t / g.w + b) ∧ SE g c fr (t % g.w) (t / g.w) a b k := by
  constructor
  · rintro ⟨i, hi, rfl, rfl, hk⟩
    have h := stp_at hg ht hi hk
    exact ⟨DX i, DY i, nb_at h.to.1, h⟩
  · rintro ⟨a, b, rfl, h⟩
    obtain ⟨i, hi, _, _, hn, hs⟩ := h.way hg ht
    exact ⟨i, hi, hn, hs, h.pos⟩
theorem SE.symm {g : Grd} {c : Int} {fr : List Bool} {x y a b k : Int} (hf : FO g fr x y) (h : SE g c fr x y a b k) : SE g c fr (x + a) (y + b) (-a) (-b) k := by
  have e1 : x + a + -a = x := by omega
  have e2 : y + b + -b = y := by omega
  refine ⟨by have := h.a1; omega, by have := h.b1; omega, by have := h.ne; omega, by rw [e1, e2]; exact hf, ?_, ?_, h.pos⟩
  · rw [e1, e2, h.cost, Int.add_comm (tc g c (x + g.w * y))]
    by_cases h0 : a = 0 ∨ b = 0
    · rw [if_pos h0, if_pos (by omega)]
    · rw [if_neg h0, if_neg (by omega)]
  · rw [e1, e2]
    rcases h.sd with hs | hs
    · exact .inl (by omega)
    · exact .inr ⟨hs.2, hs.1⟩
theorem Ed.symm {g : Grd} {c : Int} {fr : List Bool} (hg : GOk g) {t u k : Int} (ht : 0 ≤ t ∧ t < g.w * g.h) (hf : gi fr t = true) (hE : Ed g c fr t u k) : Ed g c fr u t k := by
  obtain ⟨a, b, rfl, h⟩ := (Ed.iff hg ht).1 hE
  obtain ⟨hon, he⟩ := On.of hg ht
  have hxy := h.to.1.xy
  refine (Ed.iff hg (h.to.1.bd hg).1).2 ⟨-a, -b, ?_, ?_⟩
  · rw [hxy.1, hxy.2, show t % g.w + a + -a = t % g.w by omega, show t / g.w + b + -b = t / g.w by omega, he]
  · rw [hxy.1, hxy.2]; exact h.symm ⟨hon, by rw [he]; exact hf⟩
/-- A walk, and what it costs. -/
inductive Wk (E : Int → Int → Int → Prop) : Int → Int → Int → Prop
  | nil (t : Int) : Wk E t t 0
  | step {t u v c k : Int} : Wk E t u c → E u v k → Wk E t v (c + k)
theorem Wk.cons {E : Int → Int → Int → Prop} {t u v k c : Int} (h : E t u k) (w : Wk E u v c) : Wk E t v (k + c) := by
  induction w with
  | nil => rw [Int.add_comm]; exact .step (.nil t) h
  | step _ e ih => rw [← Int.add_assoc]; exact .step ih e
theorem Wk.rev {E : Int → Int → Int → Prop} (ok : Int → Prop) (hs : ∀ u v k, ok u → E u v k → ok v ∧ E v u k) {t u c : Int} (ht : ok t) (w : Wk E t u c) : ok u ∧ Wk E u t c := by
  induction w with
  | nil => exact ⟨ht, .nil _⟩
  | step _ e ih =>
    have h1 := ih
    have h2 := hs _ _ _ h1.1 e
    refine ⟨h2.1, ?_⟩
    rw [Int.add_comm]; exact .cons h2.2 h1.2
theorem LD.walk {N goal : Int} {E : Int → Int → Int → Prop} {d : List Int} (h : LD N E goal d) (hb : ∀ t u k, (0 ≤ t ∧ t < N) → E t u k → 0 ≤ u ∧ u < N) {t u c : Int} (ht : 0 ≤ t ∧ t < N) (h0 : 0 ≤ gi d t) (w : Wk E t u c) : (0 ≤ u ∧ u < N) ∧ 0 ≤ gi d u ∧ gi d u ≤ gi d t + c := by
  induction w with
  | nil => exact ⟨ht, h0, by omega⟩
  | step _ e ih =>
    have h1 := ih
    have h2 := h.edge _ _ _ h1.1 h1.2.1 e
    exact ⟨hb _ _ _ h1.1 e, h2.1, by omega⟩
theorem LD.has {N goal : Int} {E : Int → Int → Int → Prop} {d : List Int} (h : LD N E goal d) : ∀ t, (0 ≤ t ∧ t < N) → 0 ≤ gi d t → Wk E goal t (gi d t) := by
  have key : ∀ n : Nat, ∀ t, (0 ≤ t ∧ t < N) → 0 ≤ gi d t → gi d t ≤ n → Wk E goal t (gi d t) := by
    intro n
    induction n with
    | zero =>
      intro t ht h0 hn
      by_cases hg : t = goal
      · subst hg; rw [h.zero]; exact .nil t
      · obtain ⟨u, k, hu, he, hk, hd, hs⟩ := h.sup t ht hg h0
        omega
    | succ n ih =>
      intro t ht h0 hn
      by_cases hg : t = goal
      · subst hg; rw [h.zero]; exact .nil t
      · obtain ⟨u, k, hu, he, hk, hd, hs⟩ := h.sup t ht hg h0
        rw [← hs]
        exact .step (ih u hu hd (by omega)) he
  exact fun t ht h0 => key (gi d t).toNat t ht h0 (by omega)
end Go.Proofs.YthdbofgcckjopaaGreat
set_option linter.unusedVariables false
set_option linter.unusedSimpArgs false
namespace Go.Proofs.YthdbofgcckjopaaGreat
open Go.Vg
/-! ### Sums over a table -/
end Go.Proofs.YthdbofgcckjopaaGreat
set_option linter.unusedVariables false
set_option linter.unusedSimpArgs false
namespace Go.Proofs.YthdbofgcckjopaaGreat
open Go.Vg
end Go.Proofs.YthdbofgcckjopaaGreat
set_option linter.unusedVariables false
set_option linter.unusedSimpArgs false
namespace Go.Proofs.YthdbofgcckjopaaGreat
open Go.Vg
end Go.Proofs.YthdbofgcckjopaaGreat
