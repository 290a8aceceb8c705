/-
  BuildOrders, as a pure function, is true. For arguments that are Go's.
-/
import Derived.Test.YtdaopgoaghhbpaaBT
set_option linter.unusedVariables false
set_option linter.unusedSimpArgs false
namespace Go.Proofs.Ytdaopgoaghhbpaa
open Go.Vg
theorem MOk.map {g : Grd} {l x : List Bld} (h : MOk g l) (f : Int → Int) (hl : x.length ≤ l.length) (hf : ∀ j : Int, 0 ≤ j → j < x.length → 0 ≤ f j ∧ f j < l.length) (hm : ∀ j k : Int, 0 ≤ j → j < k → k < x.length → f j < f k) (hg : ∀ j : Int, 0 ≤ j → j < x.length → gi x j = gi l (f j)) : MOk g x := by
  refine ⟨by have := h.len; omega, fun i i0 i1 => ?_, fun i i0 i1 => ?_, fun i k k0 k1 i1 => ?_⟩
  · rw [hg _ (by omega) (by omega), hg _ (by omega) i1]
    exact h.ris.lt (hf _ (by omega) (by omega)).1 (hm _ _ (by omega) (by omega) i1) (hf _ (by omega) i1).2
  · rw [hg _ i0 i1]
    exact h.each _ (hf _ i0 i1).1 (hf _ i0 i1).2
  · rw [hg _ (by omega) i1, hg _ k0 (by omega)]
    exact h.apart _ _ (hf _ k0 (by omega)).1 (hm _ _ k0 k1 i1) (hf _ (by omega) i1).2
theorem gi_drop {l : List Bld} {k : Nat} {i : Int} (h : 0 ≤ i) : gi (l.drop k) i = gi l (i + k) := by
  unfold gi
  rw [show (i + (k : Int)).toNat = k + i.toNat by omega]
  simp [List.getD, List.getElem?_drop]
theorem gi_less {l : List Bld} {k : Nat} {i : Int} (hk : k < l.length) (h : 0 ≤ i) : gi (l.take k ++ l.drop (k + 1)) i = gi l (if i < k then i else i + 1) := by
  have hl : (l.take k).length = k := by rw [List.length_take]; omega
  split
  · rename_i hi
    rw [gi_append_left ⟨h, by omega⟩]
    unfold gi
    have : i.toNat < k := by omega
    simp [List.getD, List.getElem?_take, this]
  · rename_i hi
    unfold gi
    rw [show (i + 1).toNat = k + 1 + (i.toNat - k) by omega]
    simp only [List.getD]
    rw [List.getElem?_append_right (by omega), hl, List.getElem?_drop]
theorem add_ok {g : Grd} {l : List Bld} {b : Bld} {i : Int} {r : List Bld × Int} (h : AddR g l b r) (hs : SOk b) (hn : NOk g b) (hf : Fm g b) (hx : ∀ j : Int, 0 ≤ j → j < l.length → ¬ (gi l j).id = b.id ∧ ¬ Meet (gi l j) b) (hl : (l.length : Int) < 256) (hc : Cut l b.id i) : r = (l.take i.toNat ++ [b] ++ l.drop i.toNat, 0) := by
  rcases h with ⟨a, _⟩ | ⟨_, a, _⟩ | ⟨_, _, ⟨j, j0, j1, hj⟩, _⟩ | ⟨_, _, _, ⟨a, _⟩ | ⟨_, a, _⟩ | ⟨_, _, k, hk, rfl⟩⟩
  · exact absurd hs a
  · exact absurd hn a
  · exact (hj.elim (hx j j0 j1).1 (hx j j0 j1).2).elim
  · exact absurd hf a
  · omega
  · rw [hc.uniq hk]
theorem count_take {c : List Bool} {i : Int} (h : 0 ≤ i ∧ i < c.length) : ((c.take (i + 1).toNat).count true : Int) = (c.take i.toNat).count true + (if gi c i = true then 1 else 0) := by
  rw [take_nextV h, List.count_append]
  cases gi c i <;> simp
theorem orders_law {p : Ask8} : thronglaw8_BuildOrders p = some true := by
  unfold thronglaw8_BuildOrders
  rw [heavy_p, bsome]
  obtain ⟨hv, hhv⟩ : ∃ b : Bool, b = decide (((decide ((700 < (p.g.tiles.length : Int)) ∨ (30 < (p.l.length : Int))) = true) ∨ (60 < (p.more.length : Int))) ∨ (60 < (p.ids.length : Int))) := ⟨_, rfl⟩
  rw [← hhv]
  cases hv with
  | true => rw [if_pos rfl, bsome, if_pos rfl]
  | false =>
    have hz : (p.g.tiles.length : Int) ≤ 700 ∧ (p.l.length : Int) ≤ 30 := by simp at hhv; omega
    rw [if_neg (by simp)]
    obtain ⟨x, hx, hxr⟩ := check_b (g := p.g) (l := p.l) (by omega) (by omega)
    rw [hx, bsome, num_p, bsome, bsome]
    rcases hxr with ⟨rfl, hg, hm⟩ | ⟨rfl, _⟩
    · rw [if_neg (by simp), if_pos (by unfold I64; omega)]
      have hid : ∀ i j : Int, 0 ≤ i → i < p.l.length → 0 ≤ j → j < p.l.length → (gi p.l i).id = (gi p.l j).id → i = j := fun i j i0 i1 j0 j1 e => by
        apply Classical.byContradiction; intro hne
        by_cases hlt : i < j
        · have := hm.ris.lt i0 hlt j1; omega
        · have := hm.ris.lt j0 (show j < i by omega) i1; omega
      have hap : ∀ i j : Int, 0 ≤ i → i < p.l.length → 0 ≤ j → j < p.l.length → ¬ i = j → ¬ Meet (gi p.l i) (gi p.l j) := fun i j i0 i1 j0 j1 e h => by
        by_cases hlt : i < j
        · exact hm.apart j i i0 hlt j1 h.symm
        · exact hm.apart i j j0 (by omega) i1 h
      refine Ok.eq (Ok.bind (R := fun y => y = Ex.go (ar p.l p.l.length, p.l)) (Ok.loop (fun z : List Bld × Int × Int => (-1 ≤ z.2.2 ∧ z.2.2 < p.l.length) ∧ z.1 = p.l.drop (z.2.2 + 1).toNat ∧ z.2.1 = ar p.l p.l.length - ar p.l (z.2.2 + 1) ∧ 0 ≤ z.2.1 ∧ z.2.1 ≤ 16 * (p.l.length - 1 - z.2.2)) (fun z => (z.2.2 + 1).toNat)
        ⟨by simp; omega, by simp, ?_, by simp, by simp⟩ (by unfold FUEL; simp; omega) ?_) ?_)
      · show 0 = ar p.l p.l.length - ar p.l ((p.l.length : Int) - 1 + 1)
        rw [show (p.l.length : Int) - 1 + 1 = p.l.length by omega]; omega
      · rintro ⟨back, s, v⟩ ⟨⟨v0, v1⟩, hb, hs, s0, s1⟩
        dsimp only at v0 v1 hb hs s0 s1 ⊢
        subst hb
        refine Ok.ite (fun hv => ?_) (fun hv => Ok.ret ?_)
        · refine Ok.gd ⟨hv, v1⟩ ?_
          have he := hm.each v hv v1
          have hbl : (p.l.drop (v + 1).toNat).length = p.l.length - (v + 1).toNat := List.length_drop
          have hgd : ∀ j : Int, 0 ≤ j → gi (p.l.drop (v + 1).toNat) j = gi p.l (j + (v + 1)) := fun j j0 => by rw [gi_drop j0]; congr 1; omega
          have hmd : MOk p.g (p.l.drop (v + 1).toNat) := hm.map (fun j => j + (v + 1)) (by omega) (fun j j0 j1 => by omega) (fun j k _ _ _ => by omega) (fun j j0 _ => hgd j j0)
          obtain ⟨r, hr, hrr⟩ := add_b (g := p.g) (l := p.l.drop (v + 1).toNat) (b := gi p.l v) (by omega) (by omega)
          rw [hr, bsome]
          have hra : r = (p.l.drop v.toNat, 0) := by
            rcases hrr with ⟨_, hrr⟩ | ⟨hno, _⟩
            · have := add_ok (i := 0) hrr he.1 he.2.1 he.2.2 (fun j j0 j1 => by
                rw [hgd j j0]
                exact ⟨fun e => by have := hid _ _ (by omega) (by omega) hv v1 e; omega, hap _ _ (by omega) (by omega) hv v1 (by omega)⟩) (by omega)
                ⟨by omega, fun j j0 j1 => by omega, fun j j0 j1 => by rw [hgd j j0]; have := hm.ris.lt hv (show v < j + (v + 1) by omega) (by omega); omega⟩
              rw [this]
              have hvn : v.toNat < p.l.length := by omega
              congr 1
              show [] ++ [gi p.l v] ++ p.l.drop (v + 1).toNat = p.l.drop v.toNat
              rw [show (v + 1).toNat = v.toNat + 1 by omega, List.drop_eq_getElem_cons hvn]
              simp [gi, List.getD, hvn]
            · exact absurd ⟨hg, hmd⟩ hno
          subst hra
          dsimp only
          rw [num_p, bsome, if_neg (by simp), if_pos ⟨hv, v1⟩, if_pos ⟨hv, v1⟩]
          have hw := mul_bd (a := (gi p.l v).w) (b := (gi p.l v).h) (A := 4) (B := 4) (by have := he.1.2.2.1; omega) (by have := he.1.2.2.2; omega)
          refine Ok.gd (by unfold I64; omega) (Ok.gd (by unfold I64; omega) (Ok.gd (by unfold I64; omega) (Ok.ret ⟨⟨by show -1 ≤ v - 1 ∧ v - 1 < _; omega, by show _ = p.l.drop (v - 1 + 1).toNat; rw [show v - 1 + 1 = v by omega], ?_, by show 0 ≤ s + _; omega, by show s + _ ≤ 16 * ((p.l.length : Int) - 1 - (v - 1)); omega⟩, by show (v - 1 + 1).toNat < (v + 1).toNat; omega⟩)))
          show s + (gi p.l v).w * (gi p.l v).h = ar p.l p.l.length - ar p.l (v - 1 + 1)
          rw [show v - 1 + 1 = v by omega, hs, ar_step ⟨hv, v1⟩]; omega
        · have hv1 : v = -1 := by omega
          subst hv1
          have e2 : (-1 + 1 : Int).toNat = 0 := rfl
          rw [e2, List.drop_zero, hs, show (-1 + 1 : Int) = 0 by omega, ar_zero, Int.sub_zero]
      · intro y hy
        subst hy
        simp only [Ex.then]
        obtain ⟨⟨c, e⟩, hc, hcr⟩ := covered_b (g := p.g) (l := p.l) (by omega) (by omega)
        rw [hc, bsome]
        rcases hcr with ⟨_, rfl, hcr, hcn⟩ | ⟨hno, _⟩
        · dsimp only at hcr hcn ⊢
          have hcl := hcr.1
          rw [num_p, bsome]
          refine Ok.bindE (x := false) (by rw [if_neg (by simp), eqBl_p (by omega), bsome]; simp) ?_
          rw [if_neg (by simp)]
          have hco : ∀ i : Nat, (c.take i).count true ≤ c.length := fun i => by
            have := List.count_le_length (a := true) (l := c.take i)
            have h2 : (c.take i).length ≤ c.length := by rw [List.length_take]; omega
            omega
          refine Ok.bind (R := fun y => y = Ex.go 0) (Ok.loop (fun z : Int × Int => (0 ≤ z.2 ∧ z.2 ≤ c.length) ∧ z.1 = c.count true - (c.take z.2.toNat).count true) (fun z => (c.length - z.2).toNat) ⟨by simp, by show ar p.l p.l.length = _; rw [← hcn]; simp⟩ (by unfold FUEL; simp; omega) ?_) ?_
          · rintro ⟨s, t⟩ ⟨⟨t0, t1⟩, hs⟩
            dsimp only at t0 t1 hs ⊢
            have hct := List.count_le_length (a := true) (l := c)
            have hct2 := hco t.toNat
            refine Ok.ite (fun ht => ?_) (fun ht => Ok.ret ?_)
            · refine Ok.gd ⟨t0, ht⟩ (Ok.ite (fun hcc => ?_) (fun hcc => ?_))
              · obtain ⟨i, i0, i1, hin⟩ := (hcr.2 t t0 (by omega)).1 hcc
                have hfm := (hm.each i i0 i1).2.2 t hin
                refine Ok.gd (by unfold I64; omega) (Ok.gd (by omega) (Ok.gd (fun _ => by omega) (Ok.ite (fun h => absurd h (by omega)) (fun _ => Ok.gd (by unfold I64; omega) (Ok.ret ⟨⟨by show 0 ≤ t + 1 ∧ t + 1 ≤ _; omega, ?_⟩, by show ((c.length : Int) - (t + 1)).toNat < _; omega⟩)))))
                show s - 1 = (c.count true : Int) - (c.take (t + 1).toNat).count true
                rw [count_take ⟨t0, ht⟩, if_pos hcc]; omega
              · refine Ok.gd (by unfold I64; omega) (Ok.ret ⟨⟨by show 0 ≤ t + 1 ∧ t + 1 ≤ _; omega, ?_⟩, by show ((c.length : Int) - (t + 1)).toNat < _; omega⟩)
                show s = (c.count true : Int) - (c.take (t + 1).toNat).count true
                rw [count_take ⟨t0, ht⟩, if_neg hcc]; omega
            · have htl : t.toNat = c.length := by omega
              rw [hs, htl, List.take_length, Int.sub_self]
          · intro y hy
            subst hy
            simp only [Ex.then]
            refine Ok.bind (R := fun y => y = Ex.go ()) (Ok.loop (fun i : Int => 0 ≤ i ∧ i ≤ p.l.length) (fun i => (p.l.length - i).toNat) ⟨by omega, by omega⟩ (by unfold FUEL; omega) ?_) ?_
            · rintro i ⟨i0, i1⟩
              refine Ok.ite (fun hi => Ok.gd ⟨i0, hi⟩ ?_) (fun _ => Ok.ret rfl)
              have he := hm.each i i0 hi
              obtain ⟨k, hk⟩ : ∃ k : Nat, (k : Int) = i := ⟨i.toNat, by omega⟩
              have hkt : i.toNat = k := by omega
              obtain ⟨x, hx, hxr⟩ := drop_b (l := p.l) (by omega) (gi p.l i).id
              have hxa : x = (p.l.take k ++ p.l.drop (k + 1), 0) := by
                rcases hxr with ⟨_, h⟩ | ⟨hno, _⟩
                · exact h.uniq hm.ris (.inr ⟨i, ⟨i0, hi⟩, rfl, by rw [hkt]⟩)
                · exact absurd hm.ris hno
              subst hxa
              rw [hx, bsome, if_pos ⟨i0, hi⟩]
              obtain ⟨y, hy, hyr⟩ := add_b (g := p.g) (l := p.l) (b := gi p.l i) (by omega) (by omega)
              have hya : y = ([], 12) := by
                rcases hyr with ⟨_, h⟩ | ⟨hno, _⟩
                · exact h.uniq (.inr (.inr (.inl ⟨he.1, he.2.1, ⟨i, i0, hi, .inl rfl⟩, rfl⟩)))
                · exact absurd ⟨hg, hm⟩ hno
              subst hya
              rw [hy, bsome, if_pos ⟨i0, hi⟩]
              dsimp only
              have hkl : k < p.l.length := by omega
              have hxl : (p.l.take k ++ p.l.drop (k + 1)).length = p.l.length - 1 := by
                rw [List.length_append, List.length_take, List.length_drop]; omega
              have hgx : ∀ j : Int, 0 ≤ j → gi (p.l.take k ++ p.l.drop (k + 1)) j = gi p.l (if j < k then j else j + 1) := fun j j0 => gi_less hkl j0
              have hmx : MOk p.g (p.l.take k ++ p.l.drop (k + 1)) := hm.map (fun j => if j < k then j else j + 1) (by omega) (fun j j0 j1 => by split <;> omega) (fun a b a0 a1 a2 => by split <;> split <;> omega) (fun j j0 _ => hgx j j0)
              obtain ⟨z, hzz, hzr⟩ := add_b (g := p.g) (l := p.l.take k ++ p.l.drop (k + 1)) (b := gi p.l i) (by omega) (by omega)
              have hza : z = (p.l, 0) := by
                rcases hzr with ⟨_, h⟩ | ⟨hno, _⟩
                · have := add_ok (i := i) h he.1 he.2.1 he.2.2 (fun j j0 j1 => by
                    rw [hgx j j0]
                    split
                    · exact ⟨fun e => by have := hid _ _ j0 (by omega) i0 hi e; omega, hap _ _ j0 (by omega) i0 hi (by omega)⟩
                    · exact ⟨fun e => by have := hid _ _ (by omega) (by omega) i0 hi e; omega, hap _ _ (by omega) (by omega) i0 hi (by omega)⟩) (by omega)
                    ⟨by omega, fun j j0 j1 => by rw [hgx j j0, if_pos (by omega)]; exact hm.ris.lt j0 j1 hi, fun j j0 j1 => by rw [hgx j (by omega), if_neg (by omega)]; have := hm.ris.lt i0 (show i < j + 1 by omega) (by omega); omega⟩
                  rw [this, hkt]
                  have htl : (p.l.take k).length = k := by rw [List.length_take]; omega
                  rw [List.take_append_of_le_length (by omega), List.take_take, Nat.min_self, List.drop_append_of_le_length (by omega), List.drop_of_length_le (by omega), List.nil_append]
                  congr 1
                  have hgk : gi p.l i = p.l[k] := by unfold gi; rw [hkt]; simp [List.getD, hkl]
                  rw [hgk, List.append_assoc, List.singleton_append, List.getElem_cons_drop, List.take_append_drop]
                · exact absurd ⟨hg, hmx⟩ hno
              subst hza
              rw [hzz, bsome]
              dsimp only
              rw [num_p, bsome]
              refine Ok.bindE (x := false) rfl (Ok.bindE (x := false) rfl (Ok.bindE (x := false) (by rw [if_neg (by simp), eqBl_p (by omega), bsome]; simp) ?_))
              rw [if_neg (by simp)]
              exact Ok.gd (by unfold I64; omega) (Ok.ret ⟨⟨by omega, by omega⟩, by omega⟩)
            · intro y hy
              subst hy
              simp only [Ex.then]
              rw [if_pos trivial, wakes_p]
              exact Ok.ret rfl
        · exact absurd ⟨hg, hm⟩ hno
    · rw [if_pos (by simp)]
end Go.Proofs.Ytdaopgoaghhbpaa
