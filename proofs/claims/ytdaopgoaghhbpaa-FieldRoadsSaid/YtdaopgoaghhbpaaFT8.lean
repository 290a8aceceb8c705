/-
  FieldRoads, as a pure function, is true. For arguments that are Go's.
-/
import Derived.Test.YtdaopgoaghhbpaaFX
import Derived.Test.YtdaopgoaghhbpaaFT1
import Derived.Test.YtdaopgoaghhbpaaFG8
set_option linter.unusedVariables false
set_option linter.unusedSimpArgs false
namespace Go.Proofs.Ytdaopgoaghhbpaa
open Go.Vg
theorem form13_y {p : Ask13} (hg : p.g.tiles.length ≤ 9223372036854775806) (hl : p.l.length ≤ 9223372036854775806) : (AOk p.g p.l p.cls p.size ∧ thronglaw13_form p = some 0) ∨ (¬ AOk p.g p.l p.cls p.size ∧ thronglaw13_form p = some 1) := by
  obtain ⟨r, e, h | h⟩ := form13_b (p := p) hg hl
  · rw [h.1] at e; exact .inl ⟨h.2, e⟩
  · rw [h.1] at e; exact .inr ⟨h.2, e⟩
theorem copyG_p {g : Grd} (h : g.tiles.length < 1099511627776) : throngref0_CopyGround g = some g := by
  unfold throngref0_CopyGround
  have e : throngref0_CopyBytes g.tiles = some g.tiles := copyF_eq h
  rw [e, bsome]
theorem pr_road {c : Int} (hc : 0 ≤ c ∧ c ≤ 2) : pr c 1 = 1 := by
  have : c = 0 ∨ c = 1 ∨ c = 2 := by omega
  rcases this with rfl | rfl | rfl <;> rfl
theorem road_gi {tl : List UInt8} {a t : Int} (ha : 0 ≤ a ∧ a < tl.length) (ht : 0 ≤ t) : gi (si tl a 1) t = if t = a then 1 else gi tl t := by
  by_cases h : t = a
  · subst h; rw [if_pos rfl]; exact gi_si_self ha
  · rw [if_neg h]; exact gi_si_ne ha.1 ht (Ne.symm h)
theorem road_g {g : Grd} {a : Int} (hg : GOk g) (ha : 0 ≤ a ∧ a < g.w * g.h) : GOk ⟨g.w, g.h, si g.tiles a 1⟩ := by
  have hgl := hg.2.2.1
  refine ⟨hg.1, hg.2.1, by show ((si g.tiles a 1).length : Int) = _; rw [len_si]; exact hgl, fun i i0 i1 => ?_⟩
  have i1 : i < ((si g.tiles a 1).length : Int) := i1
  rw [len_si] at i1
  show ((gi (si g.tiles a 1) i).toNat : Int) ≤ 5
  rw [road_gi ⟨ha.1, by omega⟩ i0]
  split
  · decide
  · exact hg.2.2.2 i i0 i1
theorem road_m {g : Grd} {l : List Bld} {a : Int} (hg : GOk g) (hm : MOk g l) (ha : 0 ≤ a ∧ a < g.w * g.h) : MOk ⟨g.w, g.h, si g.tiles a 1⟩ l := by
  have hgl := hg.2.2.1
  refine ⟨hm.len, hm.ris, fun i i0 i1 => ?_, hm.apart⟩
  obtain ⟨h1, h2, h3⟩ := hm.each i i0 i1
  refine ⟨h1, h2, fun t ht => ?_⟩
  have ht : In g (gi l i) t := ht
  have hb := h3 t ht
  have h0 : 0 ≤ t := by
    obtain ⟨x, y, hx, hy, rfl⟩ := ht
    unfold NOk at h2
    have : 0 ≤ g.w * y := Int.mul_nonneg (by have := hg.1; omega) (by omega)
    omega
  show ((gi (si g.tiles a 1) t).toNat : Int) ≤ 1
  rw [road_gi ⟨ha.1, by omega⟩ h0]
  split
  · decide
  · exact hb
/-- The same as scanOk, where the end is met just there. -/
theorem scanMx {β : Type} {f : Int → Option (St Int (Ex Unit β))} {a n : Int} (G : Int → Prop) (U : β → Prop) (hn : n - a < 9223372036854775808)
    (step : ∀ v, a ≤ v → v < n → (∀ u, a ≤ u → u < v → G u) → Ok (f v) fun y => match y with | .next s => s = v + 1 ∧ G v | .done (.up r) => U r | .done (.go _) => False)
    (fin : ∀ v, v = max a n → f v = some (St.done (Ex.go ()))) : Ok (loop f a) fun x => match x with | .go _ => ∀ u, a ≤ u → u < n → G u | .up r => U r := by
  refine Ok.loop (fun v => (a ≤ v ∧ v ≤ max a n) ∧ ∀ u, a ≤ u → u < v → u < n → G u) (fun v => (n - v).toNat) ⟨⟨Int.le_refl _, by omega⟩, fun u h1 h2 => by omega⟩ (by unfold FUEL; omega) ?_
  rintro v ⟨⟨h1, hm⟩, h2⟩
  by_cases hv : v < n
  · obtain ⟨y, hy, hq⟩ := step v h1 hv (fun u u0 u1 => h2 u u0 u1 (by omega))
    refine ⟨y, hy, ?_⟩
    cases y with
    | next s =>
      obtain ⟨rfl, hg⟩ := hq
      refine ⟨⟨⟨by omega, by omega⟩, fun u u0 u1 u2 => ?_⟩, by omega⟩
      by_cases e : u = v
      · subst e; exact hg
      · exact h2 u u0 (by omega) u2
    | done x =>
      cases x with
      | go _ => exact hq.elim
      | up r => exact hq
  · rw [fin v (by omega)]
    exact Ok.ret (fun u u0 u1 => h2 u u0 (by omega) u1)
theorem roads_law {p : Ask13} : thronglaw13_FieldRoads p = some true := by
  unfold thronglaw13_FieldRoads
  rw [heavy13_p, bsome]
  by_cases hh : decide ((decide ((700 < (p.g.tiles.length : Int)) ∨ (30 < (p.l.length : Int))) = true) ∨ (30 < (p.ts.length : Int))) = true
  · rw [hh, if_pos rfl, bsome, if_pos rfl]
  have hz : (p.g.tiles.length : Int) ≤ 700 ∧ (p.l.length : Int) ≤ 30 ∧ (p.ts.length : Int) ≤ 30 := by simp at hh; omega
  rw [if_neg hh]
  rcases form13_y (p := p) (by omega) (by omega) with ⟨ha, e⟩ | ⟨hno, e⟩
  · rw [e, bsome, bsome, if_neg (by simp)]
    have hg := ha.1.1
    have har := hg.area
    refine Ok.eq (Ok.bind (scanMx (a := 0) (n := min (p.ts.length - 1) 3) (fun _ => True) (fun _ => False) (by omega) (fun v v0 v1 _ => ?_) (fun v v1 => by rw [if_pos (by unfold I64; omega), if_neg (by omega)])) ?_)
    · rw [if_pos (by unfold I64; omega), if_pos (by omega), if_pos (by omega), if_pos (by unfold I64; omega), if_pos (by omega), tile13_p hg, bsome, tile13_p hg, bsome]
      by_cases htl : 0 ≤ gi p.ts v ∧ gi p.ts v < p.g.w * p.g.h
      · by_cases hat : 0 ≤ gi p.ts (v + 1) ∧ gi p.ts (v + 1) < p.g.w * p.g.h
        · rw [decide_eq_true htl, decide_eq_true hat]
          refine Ok.bindE (x := false) rfl ?_
          rw [if_neg (by simp), copyG_p (by omega), bsome]
          have hgl := hg.2.2.1
          refine Ok.gd (by omega) ?_
          have hgr := road_g hg hat
          have har : AOk ⟨p.g.w, p.g.h, si p.g.tiles (gi p.ts (v + 1)) 1⟩ p.l p.cls p.size := ⟨⟨hgr, road_m hg ha.1.2 hat⟩, ha.2⟩
          obtain ⟨r, e1, h0, fr, hfr, hd⟩ := make_b ha htl (by omega) (by omega)
          obtain ⟨r', e2, h0', fr', hfr', hd'⟩ := make_b har htl (by show (si p.g.tiles (gi p.ts (v + 1)) 1).length ≤ _; rw [len_si]; omega) (by omega)
          rw [e1, bsome, e2, bsome, num13_p, bsome, num13_p]
          have hpr := pr_road ha.2.1
          have hsub := GdF.sub hg hgr hfr hfr' (Int.le_refl _) (fun t t0 t1 h => by
            rw [road_gi ⟨hat.1, by omega⟩ t0]
            split
            · show 0 < pr p.cls 1; omega
            · exact h)
          have hle := MkR.le hg hgr htl hd hd' (fun t t0 t1 ht => by
            have h1 := GdF.open hg ha.2.2.1 hfr t t0 t1 ht
            refine ⟨hsub t t0 t1 ht, ?_⟩
            unfold tc at h1 ⊢
            dsimp only
            rw [road_gi ⟨hat.1, by omega⟩ t0]
            split
            · show 0 < pr p.cls 1 ∧ pr p.cls 1 ≤ _; omega
            · exact ⟨h1, Int.le_refl _⟩)
          have hl := hd.len
          have hl' : (r'.1.length : Int) = p.g.w * p.g.h := hd'.len
          refine Ok.bindE (x := false) (by rw [if_neg (by rw [h0]; simp), bsome, h0']; rfl) (Ok.ite (fun h => ?_) (fun _ => ?_))
          · rcases h with h | h
            · cases h
            · exact absurd (by omega) h
          · refine Ok.bind (scanOk (a := 0) (n := r.1.length) (fun _ => True) (fun _ => False) (by omega) (fun t t0 t1 _ => ?_) (fun t t0 t1 => by rw [if_neg (by omega)])) ?_
            · rw [if_pos t1]
              refine Ok.gd ⟨t0, t1⟩ (Ok.gd (fun _ => by omega) (Ok.gd (fun _ _ => by omega) (Ok.gd (fun _ _ => by omega) (Ok.ite (fun h => ?_) (fun _ => Ok.gd (by unfold I64; omega) (Ok.ret ⟨rfl, trivial⟩))))))
              have := hle t ⟨t0, by omega⟩ h.1
              have := h.2
              omega
            · rintro (_ | _) hx
              · dsimp only [Ex.then]
                exact Ok.gd (by unfold I64; omega) (Ok.ret ⟨rfl, trivial⟩)
              · exact hx.elim
        · rw [decide_eq_false hat]
          refine Ok.bindE (x := true) (by split <;> rfl) ?_
          rw [if_pos rfl]
          exact Ok.gd (by unfold I64; omega) (Ok.ret ⟨rfl, trivial⟩)
      · rw [decide_eq_false htl]
        refine Ok.bindE (x := true) rfl ?_
        rw [if_pos rfl]
        exact Ok.gd (by unfold I64; omega) (Ok.ret ⟨rfl, trivial⟩)
    · rintro (_ | _) hx
      · dsimp only [Ex.then]
        rw [(mayFR_b (by omega) (by omega)).t ha, bsome, if_pos rfl, wakes13_p]
        exact Ok.ret rfl
      · exact hx.elim
  · rw [e, bsome, bsome, if_pos (by rfl)]
end Go.Proofs.Ytdaopgoaghhbpaa
