
/-
  How much room each tile has: the program's two passes and the page's taking away, again and again, answer the same. The conditions stand in each lemma.
-/
import Derived.Test.YtiipgdmcgmbbkaaFP
set_option linter.unusedVariables false
set_option linter.unusedSimpArgs false
namespace Go.Proofs.Ytiipgdmcgmbbkaa
open Go.Vg
/-- Which tiles are open. -/
def OpR (g : Grd) (l : List Bld) (c : Int) (o : List Bool) : Prop := o.length = g.tiles.length ∧ ∀ t : Int, 0 ≤ t → t < g.tiles.length → (gi o t = true ↔ (¬ ∃ i : Int, 0 ≤ i ∧ i < l.length ∧ In g (gi l i) t) ∧ 0 < pr c ((gi g.tiles t).toNat : Int))
theorem OpR.uniq {g : Grd} {l : List Bld} {c : Int} {o p : List Bool} (h : OpR g l c o) (k : OpR g l c p) : o = p := by
  refine ext_gi (h.1.trans k.1.symm) fun i i0 i1 => ?_
  have h1 := h.2 i i0 (by have := h.1; omega)
  have h2 := k.2 i i0 (by have := h.1; omega)
  exact Bool.eq_iff_iff.2 (h1.trans h2.symm)
theorem tilesO_b {g : Grd} {l : List Bld} {c : Int} (hg : GOk g) (hm : MOk g l) (hc : 0 ≤ c ∧ c ≤ 2) : Ok (clear_Tiles g l c) (OpR g l c) := by
  have ha := hg.area
  have hgl := hg.2.2.1
  have hgt := hg.2.2.2
  unfold clear_Tiles
  refine Ok.bind (cover_b hg hm) fun x hx => ?_
  obtain ⟨⟨hxl, hx⟩, _⟩ := hx
  refine Ok.bind (R := OpR g l c) (Ok.loop (fun z : Int × List Bool => (0 ≤ z.1 ∧ z.1 ≤ x.length) ∧ z.2.length = x.length ∧ (∀ t : Int, 0 ≤ t → t < z.1 → (gi z.2 t = true ↔ (¬ ∃ i : Int, 0 ≤ i ∧ i < l.length ∧ In g (gi l i) t) ∧ 0 < pr c ((gi g.tiles t).toNat : Int))) ∧ ∀ t : Int, z.1 ≤ t → gi z.2 t = gi x t) (fun z => (x.length - z.1).toNat)
    ⟨by simp, rfl, fun t t0 t1 => (by have : t < 0 := t1; omega), fun _ _ => rfl⟩ (by unfold FUEL; simp; omega) ?_) (fun y hy => Ok.ret hy)
  rintro ⟨v, o⟩ ⟨⟨v0, v1⟩, hl, h1, h2⟩
  dsimp only at v0 v1 hl h1 h2 ⊢
  refine Ok.ite (fun hlt => ?_) (fun hlt => Ok.ret ⟨by omega, fun t t0 t1 => h1 t t0 (by omega)⟩)
  have hov := h2 v (Int.le_refl _)
  have hxv := hx v v0 (by omega)
  have ht5 := hgt v v0 (by omega)
  refine Ok.gd ⟨v0, hlt⟩ ?_
  refine Ok.bind (R := fun b => (b = true ↔ (¬ ∃ i : Int, 0 ≤ i ∧ i < l.length ∧ In g (gi l i) v) ∧ 0 < pr c ((gi g.tiles v).toNat : Int))) (Ok.ite (fun hf => Ok.gd (by omega) ?_) (fun hf => Ok.ret ⟨fun e => (by cases e), fun e => ?_⟩)) (fun b hb => ?_)
  · rw [price_p hc ⟨by omega, ht5⟩, bsome]
    refine Ok.ret ?_
    rw [decide_eq_true_iff]
    refine ⟨fun h => ⟨fun h2 => ?_, h⟩, fun h => h.2⟩
    rw [hov, hxv.2 h2] at hf
    cases hf
  · refine absurd ?_ hf
    have : ¬ gi o v = true := fun h => e.1 (hxv.1 (hov ▸ h))
    cases ho : gi o v with
    | true => exact absurd ho this
    | false => rfl
  · refine Ok.gd ⟨v0, hlt⟩ (Ok.gd (by unfold I64; omega) (Ok.ret ⟨⟨by show 0 ≤ v + 1 ∧ v + 1 ≤ _; omega, by show (si o _ _).length = _; rw [len_si]; exact hl, fun t t0 t1 => ?_, fun t t0 => ?_⟩, by show ((x.length : Int) - (v + 1)).toNat < _; omega⟩))
    · show gi (si o v b) t = true ↔ _
      by_cases htv : t = v
      · subst htv; rw [gi_si_self ⟨v0, by omega⟩]; exact hb
      · rw [gi_si_ne v0 t0 (Ne.symm htv)]; exact h1 t t0 (by have : t < v + 1 := t1; omega)
    · show gi (si o v b) t = _
      rw [gi_si_ne v0 (by have : v + 1 ≤ t := t0; omega) (by have : v + 1 ≤ t := t0; omega)]; exact h2 t (by have : v + 1 ≤ t := t0; omega)
/-- How much room each tile has, told by the tiles beside. -/
structure KS (g : Grd) (o : List Bool) (k : List Int) : Prop where
  len : (k.length : Int) = g.w * g.h
  bd : ∀ j : Int, 0 ≤ j → j < g.w * g.h → 0 ≤ gi k j ∧ gi k j ≤ 127
  zero : ∀ x y, On g x y → ¬ gi o (x + g.w * y) = true → KP g k x y = 0
  lip : ∀ x y dx dy, On g x y → (-1 ≤ dx ∧ dx ≤ 1) → (-1 ≤ dy ∧ dy ≤ 1) → KP g k x y ≤ KP g k (x + dx) (y + dy) + 1
  sup : ∀ x y, On g x y → gi o (x + g.w * y) = true → ∃ dx dy, (-1 ≤ dx ∧ dx ≤ 1) ∧ (-1 ≤ dy ∧ dy ≤ 1) ∧ KP g k x y = KP g k (x + dx) (y + dy) + 1
def F1 (a b : Int) : Prop := (a = -1 ∧ b = 0) ∨ (a = -1 ∧ b = -1) ∨ (a = 0 ∧ b = -1) ∨ (a = 1 ∧ b = -1)
def F2 (a b : Int) : Prop := (a = 1 ∧ b = 0) ∨ (a = 1 ∧ b = 1) ∨ (a = 0 ∧ b = 1) ∨ (a = -1 ∧ b = 1)
/-- What both passes leave is at most one more than beside, all about. -/
theorem chamfer {O : Int → Int → Prop} [∀ x y, Decidable (O x y)] {k k1 : Int → Int → Int} (hoff : ∀ x y, ¬ O x y → k x y = 0 ∧ k1 x y = 0) (hnn : ∀ x y, 0 ≤ k x y)
    (hc : ∀ x y a b, O x y → F1 a b → k1 x y ≤ k1 (x + a) (y + b) + 1) (hf : ∀ x y a b, O x y → F2 a b → k x y ≤ k (x + a) (y + b) + 1) (hle : ∀ x y, O x y → k x y ≤ k1 x y)
    (hor : ∀ x y, O x y → k x y = k1 x y ∨ ∃ a b, F2 a b ∧ k x y = k (x + a) (y + b) + 1) : ∀ (n : Nat) x y a b, O x y → F1 a b → k (x + a) (y + b) ≤ n → k x y ≤ k (x + a) (y + b) + 1 := by
  intro n
  induction n with
  | zero =>
    intro x y a b ho h1 hn
    by_cases hu : O (x + a) (y + b)
    · rcases hor _ _ hu with h | ⟨c, d, _, h⟩
      · have := hle x y ho
        have := hc x y a b ho h1
        omega
      · have := hnn (x + a + c) (y + b + d); omega
    · have h2 := hoff _ _ hu
      have := hle x y ho
      have := hc x y a b ho h1
      omega
  | succ n ih =>
    intro x y a b ho h1 hn
    by_cases hu : O (x + a) (y + b)
    · rcases hor _ _ hu with h | ⟨c, d, h2, h⟩
      · have := hle x y ho
        have := hc x y a b ho h1
        omega
      · obtain ⟨q, hq⟩ : ∃ q : Int → Int → Int, ∀ a b, k (x + a) (y + b) = q a b := ⟨fun a b => k (x + a) (y + b), fun _ _ => rfl⟩
        have e0 : k x y = q 0 0 := by rw [← hq]; simp
        have ev : k (x + a + c) (y + b + d) = q (a + c) (b + d) := by rw [← hq, Int.add_assoc, Int.add_assoc]
        have hF : ∀ c d, F2 c d → q 0 0 ≤ q c d + 1 := fun c d hcd => by have := hf x y c d ho hcd; rw [hq, e0] at this; exact this
        have hI : ∀ c d, F1 c d → q c d ≤ n → q 0 0 ≤ q c d + 1 := fun c d hcd hle => by have := ih x y c d ho hcd (by rw [hq]; exact hle); rw [hq, e0] at this; exact this
        have hF' : ∀ a b c d, F2 c d → q a b ≤ q (a + c) (b + d) + 1 := fun a b c d hcd => by
          by_cases hw : O (x + a) (y + b)
          · have := hf (x + a) (y + b) c d hw hcd
            rw [Int.add_assoc, Int.add_assoc, hq, hq] at this; exact this
          · have h3 := hoff _ _ hw
            have h4 := hnn (x + (a + c)) (y + (b + d))
            rw [hq] at h3 h4
            omega
        have hI' : ∀ a b c d, F1 c d → q (a + c) (b + d) ≤ n → q a b ≤ q (a + c) (b + d) + 1 := fun a b c d hcd hle => by
          by_cases hw : O (x + a) (y + b)
          · have := ih (x + a) (y + b) c d hw hcd (by rw [Int.add_assoc, Int.add_assoc, hq]; exact hle)
            rw [Int.add_assoc, Int.add_assoc, hq, hq] at this; exact this
          · have h3 := hoff _ _ hw
            have h4 := hnn (x + (a + c)) (y + (b + d))
            rw [hq] at h3 h4
            omega
        rw [hq, ev] at h
        rw [hq] at hn
        rw [hq, e0]
        have f1 : F2 1 0 := .inl ⟨rfl, rfl⟩
        have f2 : F2 1 1 := .inr (.inl ⟨rfl, rfl⟩)
        have f3 : F2 0 1 := .inr (.inr (.inl ⟨rfl, rfl⟩))
        have f4 : F2 (-1) 1 := .inr (.inr (.inr ⟨rfl, rfl⟩))
        have b1 : F1 (-1) 0 := .inl ⟨rfl, rfl⟩
        have b2 : F1 (-1) (-1) := .inr (.inl ⟨rfl, rfl⟩)
        have b3 : F1 0 (-1) := .inr (.inr (.inl ⟨rfl, rfl⟩))
        have b4 : F1 1 (-1) := .inr (.inr (.inr ⟨rfl, rfl⟩))
        rcases h1 with ⟨rfl, rfl⟩ | ⟨rfl, rfl⟩ | ⟨rfl, rfl⟩ | ⟨rfl, rfl⟩ <;> rcases h2 with ⟨rfl, rfl⟩ | ⟨rfl, rfl⟩ | ⟨rfl, rfl⟩ | ⟨rfl, rfl⟩ <;> simp only [Int.reduceNeg, Int.reduceAdd, Int.zero_add, Int.add_zero] at h hn ⊢
        · omega
        · have := hF 0 1 f3; omega
        · have := hF (-1) 1 f4; omega
        · have h5 := hF (-1) 1 f4
          have h6 := hI' (-1) 1 (-1) 0 b1
          simp only [Int.reduceNeg, Int.reduceAdd, Int.zero_add, Int.add_zero] at h6
          have := h6 (by omega); omega
        · have := hI 0 (-1) b3 (by omega); omega
        · omega
        · have := hI (-1) 0 b1 (by omega); omega
        · have h5 := hF (-1) 1 f4
          have h6 := hI' (-1) 1 (-1) (-1) b2
          simp only [Int.reduceNeg, Int.reduceAdd, Int.zero_add, Int.add_zero] at h6
          have := h6 (by omega); omega
        · have := hI 1 (-1) b4 (by omega); omega
        · have := hF 1 0 f1; omega
        · omega
        · have := hI (-1) 0 b1 (by omega); omega
        · have h5 := hF 1 0 f1
          have h6 := hI' 1 0 1 (-1) b4
          simp only [Int.reduceNeg, Int.reduceAdd, Int.zero_add, Int.add_zero] at h6
          have := h6 (by omega); omega
        · have h5 := hF 1 0 f1
          have h6 := hF' 1 0 1 0 f1
          simp only [Int.reduceNeg, Int.reduceAdd, Int.zero_add, Int.add_zero] at h6
          omega
        · have := hF 1 0 f1; omega
        · omega
    · have h2 := hoff _ _ hu
      have := hle x y ho
      have := hc x y a b ho h1
      omega
/-- Both passes' ways. -/
def W1 : List Pr2 := [⟨-1, 0⟩, ⟨-1, -1⟩, ⟨0, -1⟩, ⟨1, -1⟩]
def W2 : List Pr2 := [⟨1, 0⟩, ⟨1, 1⟩, ⟨0, 1⟩, ⟨-1, 1⟩]
theorem W1_at {a b : Int} (h : F1 a b) : ∃ i : Int, (0 ≤ i ∧ i < 4) ∧ (gi W1 i).a = a ∧ (gi W1 i).b = b := by
  rcases h with ⟨rfl, rfl⟩ | ⟨rfl, rfl⟩ | ⟨rfl, rfl⟩ | ⟨rfl, rfl⟩
  · exact ⟨0, by omega, rfl, rfl⟩
  · exact ⟨1, by omega, rfl, rfl⟩
  · exact ⟨2, by omega, rfl, rfl⟩
  · exact ⟨3, by omega, rfl, rfl⟩
theorem W2_at {a b : Int} (h : F2 a b) : ∃ i : Int, (0 ≤ i ∧ i < 4) ∧ (gi W2 i).a = a ∧ (gi W2 i).b = b := by
  rcases h with ⟨rfl, rfl⟩ | ⟨rfl, rfl⟩ | ⟨rfl, rfl⟩ | ⟨rfl, rfl⟩
  · exact ⟨0, by omega, rfl, rfl⟩
  · exact ⟨1, by omega, rfl, rfl⟩
  · exact ⟨2, by omega, rfl, rfl⟩
  · exact ⟨3, by omega, rfl, rfl⟩
theorem at_W1 {i : Int} (h : 0 ≤ i ∧ i < 4) : F1 (gi W1 i).a (gi W1 i).b := by
  have : i = 0 ∨ i = 1 ∨ i = 2 ∨ i = 3 := by omega
  rcases this with rfl | rfl | rfl | rfl
  · exact .inl ⟨rfl, rfl⟩
  · exact .inr (.inl ⟨rfl, rfl⟩)
  · exact .inr (.inr (.inl ⟨rfl, rfl⟩))
  · exact .inr (.inr (.inr ⟨rfl, rfl⟩))
theorem at_W2 {i : Int} (h : 0 ≤ i ∧ i < 4) : F2 (gi W2 i).a (gi W2 i).b := by
  have : i = 0 ∨ i = 1 ∨ i = 2 ∨ i = 3 := by omega
  rcases this with rfl | rfl | rfl | rfl
  · exact .inl ⟨rfl, rfl⟩
  · exact .inr (.inl ⟨rfl, rfl⟩)
  · exact .inr (.inr (.inl ⟨rfl, rfl⟩))
  · exact .inr (.inr (.inr ⟨rfl, rfl⟩))
theorem F1.bd {a b : Int} (h : F1 a b) : (-1 ≤ a ∧ a ≤ 1) ∧ (-1 ≤ b ∧ b ≤ 1) ∧ ¬ (a = 0 ∧ b = 0) := by unfold F1 at h; omega
theorem F2.bd {a b : Int} (h : F2 a b) : (-1 ≤ a ∧ a ≤ 1) ∧ (-1 ≤ b ∧ b ≤ 1) ∧ ¬ (a = 0 ∧ b = 0) := by unfold F2 at h; omega
theorem F1.lt {g : Grd} {x y a b : Int} (h : F1 a b) (ho : On g x y) (hw : 1 ≤ g.w) (hn : On g (x + a) (y + b)) : x + a + g.w * (y + b) < x + g.w * y := by
  obtain ⟨⟨x0, x1⟩, y0, y1⟩ := ho
  obtain ⟨⟨n0, n1⟩, n2, n3⟩ := hn
  rw [Int.mul_add]
  rcases h with ⟨rfl, rfl⟩ | ⟨rfl, rfl⟩ | ⟨rfl, rfl⟩ | ⟨rfl, rfl⟩
  · rw [Int.mul_zero]; omega
  · rw [show g.w * (-1) = -g.w by omega]; omega
  · rw [show g.w * (-1) = -g.w by omega]; omega
  · rw [show g.w * (-1) = -g.w by omega]; omega
theorem F2.lt {g : Grd} {x y a b : Int} (h : F2 a b) (ho : On g x y) (hw : 1 ≤ g.w) (hn : On g (x + a) (y + b)) : x + g.w * y < x + a + g.w * (y + b) := by
  obtain ⟨⟨x0, x1⟩, y0, y1⟩ := ho
  obtain ⟨⟨n0, n1⟩, n2, n3⟩ := hn
  rw [Int.mul_add]
  rcases h with ⟨rfl, rfl⟩ | ⟨rfl, rfl⟩ | ⟨rfl, rfl⟩ | ⟨rfl, rfl⟩
  · rw [Int.mul_zero]; omega
  · rw [Int.mul_one]; omega
  · rw [Int.mul_one]; omega
  · rw [Int.mul_one]; omega
end Go.Proofs.Ytiipgdmcgmbbkaa
