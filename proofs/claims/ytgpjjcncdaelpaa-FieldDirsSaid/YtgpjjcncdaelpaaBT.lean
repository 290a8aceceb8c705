/-
  The five statements of the buildings, as pure functions, are true. For arguments that are Go's.
-/
import Derived.Test.YtgpjjcncdaelpaaBS
set_option linter.unusedVariables false
set_option linter.unusedSimpArgs false
namespace Go.Proofs.Ytgpjjcncdaelpaa
open Go.Vg
theorem heavy_p (p : Ask8) : thronglaw8_heavy p = some (decide (((decide ((700 < (p.g.tiles.length : Int)) ∨ (30 < (p.l.length : Int))) = true) ∨ (60 < (p.more.length : Int))) ∨ (60 < (p.ids.length : Int)))) := rfl
theorem num_p (e : Int) : thronglaw8_num e = some e := rfl
theorem covers_law {p : Ask8} : thronglaw8_BuildCovers p = some true := by
  unfold thronglaw8_BuildCovers
  rw [heavy_p, bsome]
  refine Ok.eq (Ok.ite (fun _ => Ok.ret rfl) (fun hh => ?_))
  have hz : (p.g.tiles.length : Int) ≤ 700 ∧ (p.l.length : Int) ≤ 30 := by simp at hh; omega
  refine Ok.bind (checkR_b (g := p.g) (l := p.l) (by omega) (by omega)) ?_
  rintro x4 (⟨rfl, hg, hm⟩ | ⟨rfl, hno⟩)
  · rw [if_pos rfl]
    obtain ⟨c, hc, hcr⟩ := coveredR_b hg hm
    rw [hc, bsome, bsome]
    refine Ok.bind (covered_b (by omega) (by omega)) ?_
    rintro ⟨d, e⟩ (⟨_, rfl, hd, _⟩ | ⟨hno, _⟩)
    · dsimp only at hd ⊢
      rw [num_p, bsome]
      have e1 := hd.uniq hcr
      subst e1
      have hl := hd.1
      refine Ok.bindE (x := false) (by rw [if_neg (by simp), eqB_p (by omega), bsome]; simp) ?_
      rw [if_neg (by simp), bools_p (by omega), bsome, wakes_p]
      exact Ok.ret rfl
    · exact absurd ⟨hg, hm⟩ hno
  · rw [if_neg (by omega), bsome]
    refine Ok.bind (covered_b (by omega) (by omega)) ?_
    rintro ⟨d, e⟩ (⟨h, _⟩ | ⟨_, h⟩)
    · exact absurd h hno
    · cases h
      dsimp only
      rw [num_p, bsome]
      refine Ok.bindE (x := false) (by rw [if_neg (by simp), eqB_p (by simp), bsome]; simp) ?_
      rw [if_neg (by simp), bools_p (by simp), bsome, wakes_p]
      exact Ok.ret rfl
theorem drops_law {p : Ask8} : thronglaw8_BuildDrops p = some true := by
  unfold thronglaw8_BuildDrops
  rw [heavy_p, bsome]
  refine Ok.eq (Ok.ite (fun _ => Ok.ret rfl) (fun hh => ?_))
  have hz : (p.l.length : Int) ≤ 30 ∧ (p.ids.length : Int) ≤ 60 := by simp at hh; omega
  refine Ok.bind (R := fun x => x = Ex.go ()) (Ok.loop (fun i : Int => 0 ≤ i ∧ i ≤ p.ids.length) (fun i => (p.ids.length - i).toNat) ⟨by omega, by omega⟩ (by unfold FUEL; omega) ?_) (fun x hx => ?_)
  · rintro i ⟨h0, h1⟩
    refine Ok.ite (fun hlt => ?_) (fun _ => Ok.ret rfl)
    have next : Ok (if I64 (i + 1) then some (St.next (i + 1)) else none) fun y : St Int (Ex Unit Bool) => match y with | .next s' => (0 ≤ s' ∧ s' ≤ p.ids.length) ∧ (p.ids.length - s').toNat < (p.ids.length - i).toNat | .done b => b = Ex.go () :=
      Ok.gd (by unfold I64; omega) (Ok.ret ⟨⟨by omega, by omega⟩, by omega⟩)
    by_cases hr : Ris p.l
    · rw [(ids_b (by omega)).t hr, bsome, if_pos rfl, if_pos ⟨h0, hlt.1⟩]
      obtain ⟨⟨d, ok⟩, hd, hdr⟩ := dropR_b (l := p.l) (by omega) (gi p.ids i)
      dsimp only at hdr
      have e1 : (Option.bind (throngref8_Drop p.l (gi p.ids i)) fun x40 => if (!x40.2) = true then some ((3 : Int), x40.1) else some (0, x40.1)) = some ((if ok = true then 0 else 3), d) := by
        rw [hd, bsome]; cases ok <;> rfl
      rw [e1, bsome]
      dsimp only
      rw [copyBl_p (by omega), bsome]
      refine Ok.gd ⟨h0, hlt.1⟩ ?_
      obtain ⟨⟨x, e⟩, hx, hxr⟩ := drop_b (l := p.l) (by omega) (gi p.ids i)
      rw [hx, bsome]
      dsimp only
      rw [num_p, bsome]
      rcases hxr with ⟨_, hxr⟩ | ⟨hno, _⟩
      · have hxl : x.length ≤ 60 := by
          rcases hxr with ⟨h, _⟩ | ⟨j, hj, _, h⟩
          · cases h; simp
          · cases h; simp; omega
        obtain ⟨h1, h2⟩ := Prod.mk.inj (hxr.uniq hr hdr)
        subst h1; subst h2
        refine Ok.bindE (x := false) (by rw [if_neg (by simp), eqBl_p (by omega), bsome]; simp) (Ok.bindE (x := false) (by rw [if_neg (by simp), eqBl_p (by omega), bsome]; simp) ?_)
        rw [if_neg (by simp)]
        exact next.mono fun y hy => by cases y <;> exact hy
      · exact absurd hr hno
    · rw [(ids_b (by omega)).f hr, bsome, if_neg (by simp), bsome]
      dsimp only
      rw [copyBl_p (by omega), bsome]
      refine Ok.gd ⟨h0, hlt.1⟩ ?_
      obtain ⟨⟨x, e⟩, hx, hxr⟩ := drop_b (l := p.l) (by omega) (gi p.ids i)
      rw [hx, bsome]
      dsimp only
      rw [num_p, bsome]
      rcases hxr with ⟨h, _⟩ | ⟨_, h⟩
      · exact absurd h hr
      · cases h
        refine Ok.bindE (x := false) (by rw [if_neg (by simp), eqBl_p (by simp), bsome]; simp) (Ok.bindE (x := false) (by rw [if_neg (by simp), eqBl_p (by omega), bsome]; simp) ?_)
        rw [if_neg (by simp)]
        exact next.mono fun y hy => by cases y <;> exact hy
  · subst hx
    show Ok (Option.bind thronglaw8_wakes fun x19 => some x19) _
    rw [wakes_p]
    exact Ok.ret rfl
theorem AddR.len {g : Grd} {l : List Bld} {b : Bld} {r : List Bld × Int} (h : AddR g l b r) : r.1.length ≤ l.length + 1 := by
  rcases h with ⟨_, rfl⟩ | ⟨_, _, rfl⟩ | ⟨_, _, _, rfl⟩ | ⟨_, _, _, ⟨_, rfl⟩ | ⟨_, _, rfl⟩ | ⟨_, _, i, _, rfl⟩⟩ <;> simp
  omega
theorem adds_law {p : Ask8} : thronglaw8_BuildAdds p = some true := by
  unfold thronglaw8_BuildAdds
  rw [heavy_p, bsome]
  refine Ok.eq (Ok.ite (fun _ => Ok.ret rfl) (fun hh => ?_))
  have hz : (p.g.tiles.length : Int) ≤ 700 ∧ (p.l.length : Int) ≤ 30 ∧ (p.more.length : Int) ≤ 60 := by simp at hh; omega
  rw [copyBl_p (by omega), bsome]
  refine Ok.bind (R := fun x => x = Ex.go ()) (Ok.loop (fun z : Int × List Bld => (0 ≤ z.1 ∧ z.1 ≤ p.more.length) ∧ (z.2.length : Int) ≤ 30 + z.1) (fun z => (p.more.length - z.1).toNat) ⟨by simp, by simp; omega⟩ (by unfold FUEL; simp; omega) ?_) (fun x hx => ?_)
  · rintro ⟨i, l⟩ ⟨⟨h0, h1⟩, hl⟩
    dsimp only at h0 h1 hl ⊢
    refine Ok.ite (fun hlt => ?_) (fun _ => Ok.ret rfl)
    have next : ∀ l' : List Bld, (l'.length : Int) ≤ 30 + (i + 1) → Ok (if I64 (i + 1) then some (St.next (i + 1, l')) else none) fun y : St (Int × List Bld) (Ex Unit Bool) => match y with | .next s' => ((0 ≤ s'.1 ∧ s'.1 ≤ p.more.length) ∧ (s'.2.length : Int) ≤ 30 + s'.1) ∧ (p.more.length - s'.1).toNat < (p.more.length - i).toNat | .done b => b = Ex.go () := fun l' h =>
      Ok.gd (by unfold I64; omega) (Ok.ret ⟨⟨⟨by show 0 ≤ i + 1; omega, by show i + 1 ≤ _; omega⟩, h⟩, by show ((p.more.length : Int) - (i + 1)).toNat < _; omega⟩)
    refine Ok.bind (checkR_b (g := p.g) (l := l) (by omega) (by omega)) ?_
    rintro x15 (⟨rfl, hg, hm⟩ | ⟨rfl, hno⟩)
    · obtain ⟨⟨w, bad⟩, hw, hwr⟩ := addR_b (b := gi p.more i) hg hm
      have e1 : (Option.bind (throngref8_Add p.g l (gi p.more i)) fun x57 => some (x57.2, x57.1)) = some (bad, w) := by rw [hw, bsome]
      rw [if_pos rfl, if_pos ⟨h0, hlt.1⟩, e1, bsome, copyBl_p (by omega), bsome]
      refine Ok.gd ⟨h0, hlt.1⟩ ?_
      obtain ⟨⟨x, e⟩, hx, hxr⟩ := add_b (g := p.g) (l := l) (b := gi p.more i) (by omega) (by omega)
      rw [hx, bsome]
      refine Ok.bind (check_b (g := p.g) (l := l) (by omega) (by omega)) ?_
      rintro x27 (⟨rfl, _⟩ | ⟨_, hno⟩)
      · rcases hxr with ⟨_, hxr⟩ | ⟨hno, _⟩
        · have := hxr.uniq hwr
          cases this
          have hxl := hxr.len
          dsimp only at hxl ⊢
          rw [num_p, bsome]
          refine Ok.bindE (x := false) (by rw [if_neg (by simp), num_p, bsome]; simp) (Ok.bindE (x := false) (by rw [if_neg (by simp), eqBl_p (by omega), bsome]; simp) (Ok.bindE (x := false) (by rw [if_neg (by simp), eqBl_p (by omega), bsome]; simp) ?_))
          rw [if_neg (by simp), bldgs_p (by omega), bsome, eqBl_p (by omega), bsome, if_neg (by simp)]
          refine Ok.ite (fun hb => ?_) (fun hb => ?_)
          · rw [copyBl_p (by omega), bsome]
            exact (next _ (by omega)).mono fun y hy => by cases y <;> exact hy
          · exact (next l (by omega)).mono fun y hy => by cases y <;> exact hy
        · exact absurd ⟨hg, hm⟩ hno
      · exact absurd ⟨hg, hm⟩ hno
    · rw [if_neg (by omega), bsome, copyBl_p (by omega), bsome]
      refine Ok.gd ⟨h0, hlt.1⟩ ?_
      obtain ⟨⟨x, e⟩, hx, hxr⟩ := add_b (g := p.g) (l := l) (b := gi p.more i) (by omega) (by omega)
      rw [hx, bsome]
      refine Ok.bind (check_b (g := p.g) (l := l) (by omega) (by omega)) ?_
      rintro x27 (⟨_, h⟩ | ⟨rfl, _⟩)
      · exact absurd h hno
      · rcases hxr with ⟨h, _⟩ | ⟨_, h⟩
        · exact absurd h hno
        · cases h
          dsimp only
          rw [num_p, bsome]
          refine Ok.bindE (x := false) (by rw [if_neg (by simp)]; rfl) (Ok.bindE (x := false) (by rw [if_neg (by simp), eqBl_p (by simp), bsome]; simp) (Ok.bindE (x := false) (by rw [if_neg (by simp), eqBl_p (by omega), bsome]; simp) ?_))
          rw [if_neg (by simp), bldgs_p (by simp), bsome, eqBl_p (by omega), bsome, if_neg (by simp), if_neg (by omega)]
          exact (next l (by omega)).mono fun y hy => by cases y <;> exact hy
  · subst hx
    show Ok (Option.bind thronglaw8_wakes fun x19 => some x19) _
    rw [wakes_p]
    exact Ok.ret rfl
theorem MOk.nil (g : Grd) : MOk g [] := ⟨by simp, fun i h0 h1 => (by simp at h1; omega), fun i h0 h1 => (by simp at h1; omega), fun i k h0 h1 h2 => (by simp at h2; omega)⟩
theorem edges_law {p : Ask8} : thronglaw8_BuildEdges p = some true := by
  unfold thronglaw8_BuildEdges
  rw [heavy_p, bsome]
  obtain ⟨hv, hhv⟩ : ∃ b : Bool, b = decide (((decide ((700 < (p.g.tiles.length : Int)) ∨ (30 < (p.l.length : Int))) = true) ∨ (60 < (p.more.length : Int))) ∨ (60 < (p.ids.length : Int))) := ⟨_, rfl⟩
  rw [← hhv]
  have hgl : hv = false → p.g.tiles.length ≤ 9223372036854775806 := fun h => by rw [h] at hhv; simp at hhv; omega
  have skip : ∀ {m : Option Bool}, (hv = true ∨ ¬ GOk p.g) → Option.bind (if hv = true then some true else Option.bind (throngref5_Ground p.g) fun x247 => some (!x247)) (fun b5 => if ((b5 = true) ∨ (20 < p.g.w)) ∨ (20 < p.g.h) then some true else m) = some true := by
    intro m h
    cases hv with
    | true => rw [if_pos rfl, bsome, if_pos (.inl (.inl rfl))]
    | false =>
      rw [if_neg (by simp), (mayR_g (hgl rfl)).f (h.resolve_left (by simp)), bsome, bsome, if_pos (.inl (.inl rfl))]
  by_cases hs : hv = true ∨ ¬ GOk p.g
  · exact skip hs
  · have hg : GOk p.g := Classical.byContradiction fun h => hs (.inr h)
    have hvf : hv = false := by cases hv <;> simp_all
    rw [hvf, if_neg (by simp), (mayR_g (hgl hvf)).t hg, bsome, bsome]
    refine Ok.eq (Ok.ite (fun _ => Ok.ret rfl) (fun hh => ?_))
    have hg1 := hg.1
    have hg2 := hg.2.1
    have ha := hg.area
    rw [if_pos (by unfold I64; omega), if_pos (by omega), bsome]
    obtain ⟨G, hG⟩ : ∃ G : Grd, G = ⟨p.g.w, p.g.h, List.replicate (p.g.w * p.g.h).toNat (0 : UInt8)⟩ := ⟨_, rfl⟩
    have hGl : (G.tiles.length : Int) = p.g.w * p.g.h := by rw [hG]; simp; omega
    have hGt : ∀ i : Int, 0 ≤ i → i < p.g.w * p.g.h → gi G.tiles i = 0 := fun i i0 i1 => by rw [hG]; exact gi_replicate ⟨i0, by omega⟩
    have hGw : G.w = p.g.w := by rw [hG]
    have hGh : G.h = p.g.h := by rw [hG]
    have hGO : GOk G := by
      refine ⟨by rw [hGw]; exact hg1, by rw [hGh]; exact hg2, by rw [hGw, hGh]; exact hGl, fun i i0 i1 => ?_⟩
      rw [hGt i i0 (by omega)]; decide
    rw [← hG]
    refine Ok.bind (R := fun x => x = Ex.go ()) (Ok.loop (fun w : Int => 0 ≤ w ∧ w ≤ 6) (fun w => (6 - w).toNat) ⟨by omega, by omega⟩ (by unfold FUEL; omega) ?_) (fun x hx => ?_)
    · rintro w ⟨w0, w1⟩
      refine Ok.ite (fun hw => ?_) (fun _ => Ok.ret rfl)
      refine Ok.bind (R := fun x => x = Ex.go ()) (Ok.loop (fun x : Int => -1 ≤ x ∧ x ≤ p.g.w + 1) (fun x => (p.g.w + 1 - x).toNat) ⟨by omega, by omega⟩ (by unfold FUEL; omega) ?_) (fun x hx => ?_)
      · rintro x ⟨x0, x1⟩
        refine Ok.ite (fun hxw => ?_) (fun _ => Ok.ret rfl)
        obtain ⟨⟨l, e⟩, hx, hxr⟩ := add_b (g := G) (l := []) (b := (⟨1, 1, x, 0, w, 1⟩ : Bld)) (by omega) (by simp)
        rw [hx, bsome]
        have want : ∃ v : Int, (if (w < 1) ∨ (4 < w) then some (1 : Int) else if ¬ (x < 0) → (I64 (x + w)) then if (x < 0) ∨ (p.g.w < (x + w)) then some 3 else some 0 else none) = some v ∧ e = v ∧ (v = 0 ↔ l.length = 1) := by
          rcases hxr with ⟨_, hxr⟩ | ⟨hno, _⟩
          · have hSO : SOk (⟨1, 1, x, 0, w, 1⟩ : Bld) ↔ 1 ≤ w ∧ w ≤ 4 := by unfold SOk; dsimp only; omega
            have hNO : 1 ≤ w → (NOk G (⟨1, 1, x, 0, w, 1⟩ : Bld) ↔ 0 ≤ x ∧ x + w ≤ p.g.w) := fun _ => by unfold NOk; dsimp only; rw [hGw, hGh]; omega
            rcases hxr with ⟨a, h⟩ | ⟨a, b, h⟩ | ⟨a, b, ⟨i, i0, i1, _⟩, h⟩ | ⟨a, b, c, h⟩
            · cases h
              rw [hSO] at a
              exact ⟨1, by rw [if_pos (by omega)], rfl, by simp⟩
            · cases h
              rw [hSO] at a
              rw [hNO a.1] at b
              exact ⟨3, by rw [if_neg (by omega), if_pos (fun _ => by unfold I64; omega), if_pos (by omega)], rfl, by simp⟩
            · simp at i1; omega
            · have a' := hSO.1 a
              have b' := (hNO a'.1).1 b
              have hf : Fm G (⟨1, 1, x, 0, w, 1⟩ : Bld) := fun t ht => by
                have := In.bd hGO a b ht
                rw [hGt t this.1 (by rw [hGw, hGh] at this; exact this.2)]; decide
              rcases h with ⟨h, _⟩ | ⟨_, h, _⟩ | ⟨_, _, i, hi, h⟩
              · exact absurd hf h
              · simp at h
              · cases h
                exact ⟨0, by rw [if_neg (by omega), if_pos (fun _ => by unfold I64; omega), if_neg (by omega)], rfl, by simp⟩
          · exact absurd ⟨hGO, MOk.nil G⟩ hno
        obtain ⟨v, hv1, rfl, hv3⟩ := want
        rw [hv1, bsome]
        dsimp only
        rw [num_p, bsome]
        have hd : (decide (e = 0)) = decide ((l.length : Int) = 1) := by
          rw [decide_eq_decide, hv3]; omega
        refine Ok.ite (fun h => absurd h (by rw [hd]; simp)) (fun _ => Ok.gd (by unfold I64; omega) (Ok.ret ⟨⟨by omega, by omega⟩, by omega⟩))
      · subst hx
        exact Ok.gd (by unfold I64; omega) (Ok.ret ⟨⟨by omega, by omega⟩, by omega⟩)
    · subst hx
      show Ok (Option.bind thronglaw8_wakes fun x19 => some x19) _
      rw [wakes_p]
      exact Ok.ret rfl
end Go.Proofs.Ytgpjjcncdaelpaa
