
/-
  What the pure functions of the buildings answer, the program's and the page's. The conditions stand in each lemma. No program in sight but those functions.
-/
import Derived.Test.YtiipgdmcgmbbkaaBG
import Derived.Test.YtiipgdmcgmbbkaaVS
set_option linter.unusedVariables false
set_option linter.unusedSimpArgs false
namespace Go.Proofs.Ytiipgdmcgmbbkaa
open Go.Vg
def GOk (g : Grd) : Prop := (1 ≤ g.w ∧ g.w ≤ 128) ∧ (1 ≤ g.h ∧ g.h ≤ 128) ∧ (g.tiles.length : Int) = g.w * g.h ∧ ∀ i : Int, 0 ≤ i → i < g.tiles.length → ((gi g.tiles i).toNat : Int) ≤ 5
def SOk (b : Bld) : Prop := (1 ≤ b.id ∧ b.id ≤ 1099511627776) ∧ (1 ≤ b.owner ∧ b.owner ≤ 8) ∧ (1 ≤ b.w ∧ b.w ≤ 4) ∧ (1 ≤ b.h ∧ b.h ≤ 4)
def NOk (g : Grd) (b : Bld) : Prop := 0 ≤ b.x ∧ 0 ≤ b.y ∧ b.x + b.w ≤ g.w ∧ b.y + b.h ≤ g.h
def In (g : Grd) (b : Bld) (t : Int) : Prop := ∃ x y, (b.x ≤ x ∧ x < b.x + b.w) ∧ (b.y ≤ y ∧ y < b.y + b.h) ∧ t = x + g.w * y
def Fm (g : Grd) (b : Bld) : Prop := ∀ t, In g b t → ((gi g.tiles t).toNat : Int) ≤ 1
def Meet (a b : Bld) : Prop := a.x < b.x + b.w ∧ b.x < a.x + a.w ∧ a.y < b.y + b.h ∧ b.y < a.y + a.h
def Ris (l : List Bld) : Prop := ∀ i : Int, 1 ≤ i → i < l.length → (gi l (i - 1)).id < (gi l i).id
structure MOk (g : Grd) (l : List Bld) : Prop where
  len : (l.length : Int) ≤ 256
  ris : Ris l
  each : ∀ i : Int, 0 ≤ i → i < l.length → SOk (gi l i) ∧ NOk g (gi l i) ∧ Fm g (gi l i)
  apart : ∀ i k : Int, 0 ≤ k → k < i → i < l.length → ¬ Meet (gi l i) (gi l k)
theorem GOk.area {g : Grd} (h : GOk g) : 1 ≤ g.w * g.h ∧ g.w * g.h ≤ 16384 := by
  obtain ⟨h1, h2, _⟩ := h
  have := mul_bd (a := g.w) (b := g.h) (A := 128) (B := 128) (by omega) (by omega)
  have := Int.mul_le_mul_of_nonneg_left h2.1 (show 0 ≤ g.w by omega)
  omega
theorem side_b (n : Int) : Bo (ground_Side n) (1 ≤ n ∧ n ≤ 128) := Bo.dec Iff.rfl
theorem max_b {l : List UInt8} (h0 : 1 ≤ l.length) (hl : l.length ≤ 9223372036854775806) : Ok (slices_Max l) fun m => (m ≤ 5 ↔ ∀ i : Int, 0 ≤ i → i < l.length → ((gi l i).toNat : Int) ≤ 5) := by
  unfold slices_Max
  rw [if_neg (by omega), bsome, if_pos (by omega)]
  refine Ok.bind (R := fun m => (m ≤ 5 ↔ ∀ i : Int, 0 ≤ i → i < l.length → ((gi l i).toNat : Int) ≤ 5)) (Ok.loop (fun z : Int × Int => (1 ≤ z.2 ∧ z.2 ≤ l.length) ∧ (z.1 ≤ 5 ↔ ∀ i : Int, 0 ≤ i → i < z.2 → ((gi l i).toNat : Int) ≤ 5)) (fun z => (l.length - z.2).toNat) ⟨by simp; omega, ?_⟩ (by unfold FUEL; simp; omega) ?_) (fun x hx => Ok.ret hx)
  · constructor
    · intro h i i0 i1
      have : i = 0 := by have : i < 1 := i1; omega
      rw [this]; exact h
    · intro h; exact h 0 (by omega) (by show (0 : Int) < 1; omega)
  · rintro ⟨m, v⟩ ⟨⟨h1, h2⟩, h3⟩
    dsimp only at h1 h2 h3 ⊢
    refine Ok.ite (fun hlt => ?_) (fun hlt => Ok.ret ?_)
    · refine Ok.gd (by omega) (Ok.gd (by unfold I64; omega) (Ok.ret ⟨⟨by show 1 ≤ v + 1 ∧ v + 1 ≤ _; omega, ?_⟩, by show ((l.length : Int) - (v + 1)).toNat < _; omega⟩))
      show max m ((gi l v).toNat : Int) ≤ 5 ↔ ∀ i : Int, 0 ≤ i → i < v + 1 → _
      constructor
      · intro h i i0 i1
        by_cases hi : i = v
        · subst hi; omega
        · exact h3.1 (by omega) i i0 (by omega)
      · intro h
        have h4 := h3.2 fun i i0 i1 => h i i0 (by omega)
        have h5 := h v (by omega) (by omega)
        omega
    · have : v = l.length := by omega
      subst this; exact h3
theorem may_g {g : Grd} (hl : g.tiles.length ≤ 9223372036854775806) : Bo (ground_May g) (GOk g) := by
  unfold ground_May
  by_cases hw : 1 ≤ g.w ∧ g.w ≤ 128
  · rw [(side_b _).t hw, bsome]
    by_cases hh : 1 ≤ g.h ∧ g.h ≤ 128
    · have := mul_bd (a := g.w) (b := g.h) (A := 128) (B := 128) (by omega) (by omega)
      have := Int.mul_le_mul_of_nonneg_left hh.1 (show 0 ≤ g.w by omega)
      refine Ok.bindE (x := false) (by rw [if_neg (by simp), (side_b _).t hh]; rfl) (Ok.gd (fun _ => by unfold I64; omega) (Ok.ite (fun h => Ok.ret ?_) (fun h => ?_)))
      · have h2 : ¬ (g.tiles.length : Int) = g.w * g.h := h.resolve_left (by simp)
        exact ⟨fun e => (by cases e), fun e => absurd e.2.2.1 h2⟩
      · have h2 : (g.tiles.length : Int) = g.w * g.h := Classical.byContradiction fun e => h (.inr e)
        refine Ok.bind (max_b (by omega) hl) fun m hm => Ok.ret ?_
        rw [decide_eq_true_iff, hm]
        exact ⟨fun h => ⟨hw, hh, h2, h⟩, fun h => h.2.2.2⟩
    · refine Ok.bindE (x := true) (by rw [if_neg (by simp), (side_b _).f hh]; rfl) (Ok.gd (fun h => absurd rfl h) (Ok.ite (fun _ => Ok.ret ⟨fun e => (by cases e), fun e => absurd e.2.1 hh⟩) (fun h => absurd (.inl rfl) h)))
  · rw [(side_b _).f hw, bsome]
    refine Ok.bindE (x := true) (by rw [if_pos (by rfl)]) (Ok.gd (fun h => absurd rfl h) (Ok.ite (fun _ => Ok.ret ⟨fun e => (by cases e), fun e => absurd e.1 hw⟩) (fun h => absurd (.inl rfl) h)))
theorem mayR_g {g : Grd} (hl : g.tiles.length ≤ 9223372036854775806) : Bo (throngref5_Ground g) (GOk g) := by
  unfold throngref5_Ground
  by_cases hs : (1 ≤ g.w ∧ g.w ≤ 128) ∧ (1 ≤ g.h ∧ g.h ≤ 128)
  · have := mul_bd (a := g.w) (b := g.h) (A := 128) (B := 128) (by omega) (by omega)
    refine Ok.gd (fun _ => by unfold I64; omega) (Ok.ite (fun h => Ok.ret ⟨fun e => (by cases e), fun e => ?_⟩) (fun h => ?_))
    · exact absurd e.2.2.1 (h.resolve_left (by omega))
    · have h2 : (g.tiles.length : Int) = g.w * g.h := Classical.byContradiction fun e => h (.inr e)
      refine (scanBo (a := 0) (n := g.tiles.length) (fun i => ((gi g.tiles i).toNat : Int) ≤ 5) (by omega) (fun v h0 h1 _ => ?_) (fun v _ hv => by rw [if_neg (by omega)])).iff ⟨fun h => ⟨hs.1, hs.2, h2, h⟩, fun h => h.2.2.2⟩
      rw [if_pos h1, if_pos ⟨h0, h1⟩]
      exact Ok.ite (fun h => Ok.ret ⟨rfl, by omega⟩) (fun h => Ok.gd (by unfold I64; omega) (Ok.ret ⟨rfl, by omega⟩))
  · refine Ok.gd (fun h => absurd h (fun h => hs (by omega))) (Ok.ite (fun _ => Ok.ret ⟨fun e => (by cases e), fun e => absurd ⟨e.1, e.2.1⟩ hs⟩) (fun h => absurd (.inl (by omega)) h))
theorem form_b (b : Bld) : Bo (build_form b) (SOk b) := Bo.dec (by unfold SOk; omega)
theorem sides_b (b : Bld) : Bo (throngref8_Sides b) (SOk b) := Bo.dec (by unfold SOk; omega)
theorem on_b {g : Grd} {b : Bld} (hg : GOk g) (hs : SOk b) : Bo (build_on g b) (NOk g b) := by
  unfold build_on
  obtain ⟨h1, h2, _⟩ := hg
  obtain ⟨_, _, h3, h4⟩ := hs
  rw [if_pos (fun _ => by unfold I64; omega), if_pos (fun _ => by unfold I64; omega)]
  exact Bo.dec (by unfold NOk; omega)
theorem onR_b {g : Grd} {b : Bld} (hg : GOk g) (hs : SOk b) : Bo (throngref8_on g b) (NOk g b) := by
  unfold throngref8_on
  obtain ⟨h1, h2, _⟩ := hg
  obtain ⟨_, _, h3, h4⟩ := hs
  rw [if_pos (fun _ => by unfold I64; omega), if_pos (fun _ => by unfold I64; omega)]
  exact Bo.dec (by unfold NOk; omega)
theorem In.at {g : Grd} {b : Bld} (hs : SOk b) (hn : NOk g b) {x y : Int} (hx : b.x ≤ x ∧ x < b.x + b.w) (hy : b.y ≤ y ∧ y < b.y + b.h) : (x + g.w * y) / g.w = y ∧ (x + g.w * y) % g.w = x := by
  obtain ⟨n1, n2, n3, n4⟩ := hn
  exact xy_inj ⟨by omega, by omega⟩
theorem In.bd {g : Grd} {b : Bld} (hg : GOk g) (hs : SOk b) (hn : NOk g b) {t : Int} (h : In g b t) : 0 ≤ t ∧ t < g.w * g.h := by
  obtain ⟨x, y, hx, hy, rfl⟩ := h
  obtain ⟨n1, n2, n3, n4⟩ := hn
  have h1 := hg.1
  have := Int.mul_nonneg (show 0 ≤ g.w by omega) (show 0 ≤ y by omega)
  have := Int.mul_le_mul_of_nonneg_left (show y ≤ g.h - 1 by omega) (show 0 ≤ g.w by omega)
  rw [Int.mul_sub] at this
  omega
theorem In.iff {g : Grd} {b : Bld} (hg : GOk g) (hs : SOk b) (hn : NOk g b) {t : Int} : In g b t ↔ (b.x ≤ t % g.w ∧ t % g.w < b.x + b.w) ∧ (b.y ≤ t / g.w ∧ t / g.w < b.y + b.h) := by
  constructor
  · rintro ⟨x, y, hx, hy, rfl⟩
    have := In.at hs hn hx hy
    rw [this.1, this.2]; exact ⟨hx, hy⟩
  · rintro ⟨h1, h2⟩
    exact ⟨_, _, h1, h2, by have := Int.emod_add_mul_ediv t g.w; omega⟩
/-- A building's tiles, one by one. -/
structure TL (g : Grd) (b : Bld) (l : List Int) : Prop where
  mem : ∀ t, t ∈ l ↔ In g b t
  nd : l.Nodup
  len : (l.length : Int) = b.w * b.h
theorem tiles_b {g : Grd} {b : Bld} (hg : GOk g) (hs : SOk b) (hn : NOk g b) : Ok (build_Tiles g b) (TL g b) := by
  have hn' := hn
  have hs' := hs
  obtain ⟨n1, n2, n3, n4⟩ := hn'
  obtain ⟨_, _, s3, s4⟩ := hs'
  obtain ⟨g1, g2, _⟩ := hg
  have hwh := mul_bd (a := b.w) (b := b.h) (A := 4) (B := 4) (by omega) (by omega)
  unfold build_Tiles
  refine Ok.bind (R := TL g b) (Ok.loop (fun z : List Int × Int => (0 ≤ z.2 ∧ z.2 ≤ b.h) ∧ (∀ t, t ∈ z.1 ↔ ∃ x y, (b.x ≤ x ∧ x < b.x + b.w) ∧ (b.y ≤ y ∧ y < b.y + z.2) ∧ t = x + g.w * y) ∧ z.1.Nodup ∧ (z.1.length : Int) = b.w * z.2) (fun z => (b.h - z.2).toNat)
    ⟨by simp; omega, fun t => ⟨fun h => (by cases h), fun ⟨x, y, _, hy, _⟩ => (by have : y < b.y + 0 := hy.2; omega)⟩, by simp, by simp⟩ (by unfold FUEL; simp; omega) ?_) (fun x hx => Ok.ret hx)
  rintro ⟨l, v⟩ ⟨⟨v0, v1⟩, hm, hd, hlen⟩
  dsimp only at v0 v1 hm hd hlen ⊢
  have hbv := mul_bd (a := b.w) (b := v) (A := 4) (B := 4) (by omega) (by omega)
  refine Ok.ite (fun hlt => ?_) (fun hlt => Ok.ret ?_)
  · have hy : 0 ≤ b.y + v ∧ b.y + v ≤ 127 := by omega
    have hwy := mul_bd (a := g.w) (b := b.y + v) (A := 128) (B := 127) (by omega) hy
    refine Ok.bind (R := fun l' => (∀ t, t ∈ l' ↔ ∃ x y, (b.x ≤ x ∧ x < b.x + b.w) ∧ (b.y ≤ y ∧ y < b.y + (v + 1)) ∧ t = x + g.w * y) ∧ l'.Nodup ∧ (l'.length : Int) = b.w * (v + 1)) (Ok.loop (fun z : Int × List Int => (0 ≤ z.1 ∧ z.1 ≤ b.w) ∧ (∀ t, t ∈ z.2 ↔ (t ∈ l ∨ ∃ x, (b.x ≤ x ∧ x < b.x + z.1) ∧ t = x + g.w * (b.y + v))) ∧ z.2.Nodup ∧ (z.2.length : Int) = l.length + z.1) (fun z => (b.w - z.1).toNat)
      ⟨by simp; omega, fun t => ⟨fun h => .inl h, fun h => h.elim id fun ⟨x, hx, _⟩ => (by have : x < b.x + 0 := hx.2; omega)⟩, hd, by simp⟩ (by unfold FUEL; simp; omega) ?_) ?_
    · rintro ⟨u, m⟩ ⟨⟨u0, u1⟩, hm2, hd2, hl2⟩
      dsimp only at u0 u1 hm2 hd2 hl2 ⊢
      refine Ok.ite (fun hu => ?_) (fun hu => Ok.ret ?_)
      · refine Ok.gd (by unfold I64; omega) (Ok.gd (by unfold I64; omega) (Ok.gd (by unfold I64; omega) (Ok.gd (by unfold I64; omega) (Ok.gd (by omega) (Ok.gd (by unfold I64; omega) (Ok.ret ⟨⟨by show 0 ≤ u + 1 ∧ u + 1 ≤ _; omega, fun t => ?_, ?_, ?_⟩, by show (b.w - (u + 1)).toNat < _; omega⟩))))))
        · show t ∈ m ++ [_] ↔ t ∈ l ∨ ∃ x, (b.x ≤ x ∧ x < b.x + (u + 1)) ∧ _
          rw [List.mem_append, List.mem_singleton, hm2]
          constructor
          · rintro ((h | ⟨x, hx, e⟩) | e)
            · exact .inl h
            · exact .inr ⟨x, by omega, e⟩
            · exact .inr ⟨b.x + u, by omega, e⟩
          · rintro (h | ⟨x, hx, e⟩)
            · exact .inl (.inl h)
            · by_cases hxu : x = b.x + u
              · subst hxu; exact .inr e
              · exact .inl (.inr ⟨x, by omega, e⟩)
        · show (m ++ [_]).Nodup
          rw [List.nodup_append]
          refine ⟨hd2, by simp, fun a ha b' hb' e => ?_⟩
          rw [List.mem_singleton] at hb'
          subst hb'; subst e
          have hxx := xy_inj (W := g.w) (x := b.x + u) (y := b.y + v) ⟨by omega, by omega⟩
          rcases (hm2 _).1 ha with h | ⟨x, hx, e⟩
          · obtain ⟨x, y, hx, hy2, e⟩ := (hm _).1 h
            have h3 := xy_inj (W := g.w) (x := x) (y := y) ⟨by omega, by omega⟩
            rw [← e] at h3
            omega
          · have h3 := xy_inj (W := g.w) (x := x) (y := b.y + v) ⟨by omega, by omega⟩
            rw [← e] at h3
            omega
        · show ((m ++ [_]).length : Int) = l.length + (u + 1)
          simp; omega
      · have hub : u = b.w := by omega
        subst hub
        refine ⟨fun t => ?_, hd2, by rw [Int.mul_add, Int.mul_one]; omega⟩
        rw [hm2, hm]
        constructor
        · rintro (⟨x, y, hx, hy2, e⟩ | ⟨x, hx, e⟩)
          · exact ⟨x, y, hx, by omega, e⟩
          · exact ⟨x, b.y + v, hx, by omega, e⟩
        · rintro ⟨x, y, hx, hy2, e⟩
          by_cases hyv : y = b.y + v
          · subst hyv; exact .inr ⟨x, hx, e⟩
          · exact .inl ⟨x, y, hx, by omega, e⟩
    · rintro l' ⟨a1, a2, a3⟩
      exact Ok.gd (by unfold I64; omega) (Ok.ret ⟨⟨by show 0 ≤ v + 1 ∧ v + 1 ≤ _; omega, a1, a2, a3⟩, by show (b.h - (v + 1)).toNat < _; omega⟩)
  · have hvb : v = b.h := by omega
    subst hvb
    exact ⟨hm, hd, hlen⟩
end Go.Proofs.Ytiipgdmcgmbbkaa
