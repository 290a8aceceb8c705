/-
  Texts of one's own, joined: RP RS RT.
-/
import Derived.Test.YthdbofgcckjopaaGreatW7
import Derived.Test.YthdbofgcckjopaaGreatRQ
set_option linter.unusedVariables false
set_option linter.unusedSimpArgs false
set_option maxRecDepth 20000
namespace Go.Proofs.YthdbofgcckjopaaGreat
open Go.Vg Sp Qp
/-! ### The tiles of a sector -/
theorem acr_bd {n : Int} (h : 1 ≤ n ∧ n ≤ 128) : 1 ≤ acr n ∧ acr n ≤ 16 := by unfold acr; omega
theorem tilesP_b {w h s : Int} (hm : May w h) (hs : 0 ≤ s ∧ s < acr w * acr h) : Ok (sector_Tiles w h s) fun l => TilesOk w h s l ∧ l.length ≤ 16384 := by
  obtain ⟨hw, hh⟩ := hm
  have hb := may_bd ⟨hw, hh⟩
  have haw := acr_bd hw
  have hah := acr_bd hh
  have e1 : sector_across w = some (acr w) := across_p (by omega)
  unfold sector_Tiles
  rw [e1, bsome]
  have hs2 : acr w * acr h ≤ 256 := by
    have := Int.mul_le_mul haw.2 hah.2 (by omega) (by omega : (0 : Int) ≤ 16)
    omega
  have hq0 := Int.emod_nonneg s (show acr w ≠ 0 by omega)
  have hq1 := Int.emod_lt_of_pos s (show 0 < acr w by omega)
  have hd0 := Int.ediv_nonneg hs.1 (show 0 ≤ acr w by omega)
  have hd1 : s / acr w < acr h := Int.ediv_lt_of_lt_mul (by omega) (by rw [Int.mul_comm]; exact hs.2)
  have hqd := Int.mul_ediv_add_emod s (acr w)
  refine Ok.gd (by omega) (Ok.gd (by unfold I64; omega) ?_)
  rw [bsome]
  refine Ok.gd (by omega) (Ok.gd (by unfold I64; omega) ?_)
  obtain ⟨X, hX⟩ : ∃ X, X = s % acr w * 8 := ⟨_, rfl⟩
  obtain ⟨Y, hY⟩ : ∃ Y, Y = s / acr w * 8 := ⟨_, rfl⟩
  rw [← hX, ← hY]
  have hXw : X < w := by unfold acr at *; omega
  have hYh : Y < h := by unfold acr at *; omega
  have hX0 : 0 ≤ X := by omega
  have hY0 : 0 ≤ Y := by omega
  obtain ⟨xe, hxe⟩ : ∃ xe, xe = min (X + 8) w := ⟨_, rfl⟩
  obtain ⟨ye, hye⟩ : ∃ ye, ye = min (Y + 8) h := ⟨_, rfl⟩
  rw [← hye]
  have hxe2 : X < xe ∧ xe ≤ w ∧ xe ≤ X + 8 := by omega
  have hye2 : Y < ye ∧ ye ≤ h ∧ ye ≤ Y + 8 := by omega
  have key : ∀ j, Y ≤ j → j < ye → (0 ≤ w * j ∧ w * j + w ≤ 16384) := fun j a b => by
    have h1 := Int.mul_nonneg (show 0 ≤ w by omega) (show 0 ≤ j by omega)
    have h2 := Int.mul_le_mul_of_nonneg_left (show j + 1 ≤ h by omega) (show 0 ≤ w by omega)
    rw [Int.mul_add] at h2
    omega
  refine Ok.bind (R := fun l => TI w X xe Y ye X l ∧ l.length ≤ 64) (Ok.loop (fun z : List Int × Int => (Y ≤ z.2 ∧ z.2 ≤ ye) ∧ TI w X xe Y z.2 X z.1 ∧ (z.1.length : Int) ≤ 8 * (z.2 - Y)) (fun z => (ye - z.2).toNat) ⟨by omega, TI.start, by simp⟩ (by unfold FUEL; show (ye - Y).toNat < _; omega) ?_) ?_
  · rintro ⟨l, j⟩ ⟨⟨j0, j1⟩, hI, hl⟩
    dsimp only at j0 j1 hI hl ⊢
    refine Ok.gd (by unfold I64; omega) (Ok.ite (fun hj => ?_) (fun hj => Ok.ret ?_))
    rotate_left
    · obtain rfl : j = ye := by omega
      exact ⟨hI, by omega⟩
    have hk := key j j0 hj
    refine Ok.bind (R := fun m => TI w X xe Y j xe m ∧ (m.length : Int) ≤ 8 * (j - Y) + 8) (Ok.loop (fun z : Int × List Int => (X ≤ z.1 ∧ z.1 ≤ xe) ∧ TI w X xe Y j z.1 z.2 ∧ (z.2.length : Int) ≤ 8 * (j - Y) + (z.1 - X)) (fun z => (xe - z.1).toNat) ⟨by omega, hI, by show (l.length : Int) ≤ _ + (X - X); omega⟩ (by unfold FUEL; show (xe - X).toNat < _; omega) ?_) ?_
    · rintro ⟨i, m⟩ ⟨⟨i0, i1⟩, hJ, hml⟩
      dsimp only at i0 i1 hJ hml ⊢
      refine Ok.gd (by unfold I64; omega) ?_
      rw [← hxe]
      refine Ok.ite (fun hi => ?_) (fun hi => Ok.ret ?_)
      rotate_left
      · obtain rfl : i = xe := by omega
        exact ⟨hJ, by omega⟩
      refine Ok.gd (by unfold I64; omega) (Ok.gd (by unfold I64; omega) (Ok.gd (by omega) (Ok.gd (by unfold I64; omega) (Ok.ret ⟨⟨by show X ≤ i + 1 ∧ i + 1 ≤ xe; omega, hJ.step ⟨hX0, i0, hi, hxe2.2.1⟩ ⟨hY0, j0⟩, ?_⟩, by show (xe - (i + 1)).toNat < (xe - i).toNat; omega⟩))))
      show ((m ++ [i + w * j]).length : Int) ≤ 8 * (j - Y) + (i + 1 - X)
      simp; omega
    · rintro m ⟨hJ, hml⟩
      exact Ok.gd (by unfold I64; omega) (Ok.ret ⟨⟨by show Y ≤ j + 1 ∧ j + 1 ≤ ye; omega, hJ.next, by show (m.length : Int) ≤ 8 * (j + 1 - Y); omega⟩, by show (ye - (j + 1)).toNat < (ye - j).toNat; omega⟩)
  · rintro l ⟨hI, hl⟩
    refine Ok.ret ⟨⟨fun t => ?_, hI.2⟩, by omega⟩
    rw [hI.1 t]
    constructor
    · rintro ⟨t0, a1, a2, b1, b2⟩
      have hty : t / w < ye := by omega
      have htw := Int.mul_ediv_add_emod t w
      have hm0 := Int.emod_nonneg t (show w ≠ 0 by omega)
      have hml := Int.emod_lt_of_pos t (show 0 < w by omega)
      refine ⟨t0, ?_, ?_⟩
      · have := Int.mul_le_mul_of_nonneg_left (show t / w + 1 ≤ h by omega) (show 0 ≤ w by omega)
        rw [Int.mul_add] at this; omega
      · unfold atS
        have e1 : t % w / 8 = s % acr w := by omega
        have e2 : t / w / 8 = s / acr w := by omega
        rw [e1, e2]; omega
    · rintro ⟨t0, t1, hs'⟩
      have hd := divmod hw.1 t0
      have hth : t / w < h := Int.ediv_lt_of_lt_mul (by omega) (by rw [Int.mul_comm]; exact t1)
      unfold atS at hs'
      have q0 : 0 ≤ t % w / 8 ∧ t % w / 8 < acr w := by unfold acr; omega
      have e1 : s % acr w = t % w / 8 := by rw [← hs', Int.add_mul_emod_self_left, Int.emod_eq_of_lt q0.1 q0.2]
      have e2 : s / acr w = t / w / 8 := by rw [← hs', Int.add_mul_ediv_left _ _ (by omega), Int.ediv_eq_zero_of_lt q0.1 q0.2]; omega
      rw [e1] at hX; rw [e2] at hY
      refine ⟨t0, by omega, by omega, by omega, by omega⟩
/-! ### The order of labels -/
theorem orL_p (a b c : Int) : cmp_Or [a, b, c] = some (if a = 0 then if b = 0 then c else b else a) := by
  unfold cmp_Or
  refine Ok.eq (Ok.bind (R := fun r : Ex Unit Int => r = if a = 0 then if b = 0 then if c = 0 then Ex.go () else Ex.up c else Ex.up b else Ex.up a) (Ok.loop (fun v : Int => (v = 0) ∨ (v = 1 ∧ a = 0) ∨ (v = 2 ∧ a = 0 ∧ b = 0) ∨ (v = 3 ∧ a = 0 ∧ b = 0 ∧ c = 0)) (fun v => (3 - v).toNat) (.inl rfl) (by unfold FUEL; simp) ?_) ?_)
  · rintro v (rfl | ⟨rfl, ha⟩ | ⟨rfl, ha, hb⟩ | ⟨rfl, ha, hb, hc⟩)
    · rw [if_pos (by simp), if_pos (by simp)]
      show Ok (if ¬ a = 0 then _ else _) _
      refine Ok.ite (fun h => Ok.ret ?_) (fun h => Ok.gd (by unfold I64; omega) (Ok.ret ⟨.inr (.inl ⟨rfl, by omega⟩), by decide⟩))
      show Ex.up a = _
      rw [if_neg h]
    · rw [if_pos (by simp), if_pos (by simp)]
      show Ok (if ¬ b = 0 then _ else _) _
      refine Ok.ite (fun h => Ok.ret ?_) (fun h => Ok.gd (by unfold I64; omega) (Ok.ret ⟨.inr (.inr (.inl ⟨rfl, ha, by omega⟩)), by decide⟩))
      show Ex.up b = _
      rw [if_pos ha, if_neg h]
    · rw [if_pos (by simp), if_pos (by simp)]
      show Ok (if ¬ c = 0 then _ else _) _
      refine Ok.ite (fun h => Ok.ret ?_) (fun h => Ok.gd (by unfold I64; omega) (Ok.ret ⟨.inr (.inr (.inr ⟨rfl, ha, hb, by omega⟩)), by decide⟩))
      show Ex.up c = _
      rw [if_pos ha, if_pos hb, if_neg h]
    · rw [if_neg (by simp)]
      refine Ok.ret ?_
      show Ex.go () = _
      rw [if_pos ha, if_pos hb, if_pos hc]
  · rintro r rfl
    by_cases ha : a = 0
    · by_cases hb : b = 0
      · by_cases hc : c = 0
        · rw [if_pos ha, if_pos hb, if_pos hc]; exact Ok.ret (by rw [if_pos ha, if_pos hb, hc])
        · rw [if_pos ha, if_pos hb, if_neg hc]; exact Ok.ret (by rw [if_pos ha, if_pos hb])
      · rw [if_pos ha, if_neg hb]; exact Ok.ret (by rw [if_pos ha, if_neg hb])
    · rw [if_neg ha]; exact Ok.ret (by rw [if_neg ha])
theorem compareL_p (x y : Int) : cmp_Compare x y = some (Lib.compareInt x y) := by
  have hn : ∀ z : Int, cmp_isNaN z = some false := fun z => by unfold cmp_isNaN; simp
  unfold cmp_Compare Lib.compareInt
  rw [hn, hn, bsome, bsome, if_neg (by simp), if_neg (by simp)]
  by_cases h1 : x < y
  · rw [if_pos h1, if_pos h1]
  · rw [if_neg h1, if_neg h1]
    by_cases h2 : y < x
    · rw [if_pos h2, if_pos h2]
    · rw [if_neg h2, if_neg h2]
theorem compareI_c (x y : Int) : (x < y ∧ Lib.compareInt x y = -1) ∨ (x = y ∧ Lib.compareInt x y = 0) ∨ (y < x ∧ Lib.compareInt x y = 1) := by
  unfold Lib.compareInt
  by_cases h1 : x < y
  · exact .inl ⟨h1, if_pos h1⟩
  · by_cases h2 : y < x
    · exact .inr (.inr ⟨h2, by rw [if_neg h1, if_pos h2]⟩)
    · exact .inr (.inl ⟨by omega, by rw [if_neg h1, if_neg h2]⟩)
theorem cmpL_p {l m : List Int} (hl : l.length ≤ 1099511627776) (hm : m.length ≤ 1099511627776) : Ok (slices_Compare l m) fun r => l.length = m.length → (r < 0 ↔ LexLt l m) := by
  unfold slices_Compare
  refine Ok.bind (R := fun r : Ex Unit Int => l.length = m.length → match r with | .up r => (r < 0 ↔ LexLt l m) | .go _ => ¬ LexLt l m) (Ok.loop (fun v : Int => (0 ≤ v ∧ v ≤ l.length ∧ v ≤ m.length) ∧ (LexLt l m ↔ LexLt (l.drop v.toNat) (m.drop v.toNat))) (fun v => (l.length - v).toNat) ⟨by omega, by simp⟩ (by unfold FUEL; show ((l.length : Int) - 0).toNat < _; omega) ?_) ?_
  · rintro v ⟨⟨v0, v1, v2⟩, hi⟩
    refine Ok.ite (fun h => Ok.gd ⟨v0, h⟩ (Ok.ite (fun h2 => Ok.ret fun e => ?_) fun h2 => Ok.gd (by omega) ?_)) fun h => Ok.ret fun e => ?_
    · omega
    · rw [compareL_p, bsome]
      have d1 := drop_gi (l := l) (k := v) ⟨v0, h⟩
      have d2 := drop_gi (l := m) (k := v) (by omega)
      rw [d1, d2] at hi
      refine Ok.ite (fun hc => Ok.ret fun e => ?_) fun hc => Ok.gd (by unfold I64; omega) (Ok.ret ⟨⟨by omega, ?_⟩, by show ((l.length : Int) - (v + 1)).toNat < _; omega⟩)
      · show Lib.compareInt _ _ < 0 ↔ _
        rw [hi]
        show _ ↔ (_ < _ ∨ _ ∧ _)
        rcases compareI_c (gi l v) (gi m v) with ⟨a, b⟩ | ⟨a, b⟩ | ⟨a, b⟩
        · rw [b]; exact ⟨fun _ => .inl a, fun _ => by omega⟩
        · exact absurd b hc
        · rw [b]; exact ⟨fun h => by omega, fun h => by omega⟩
      · rw [hi]
        rcases compareI_c (gi l v) (gi m v) with ⟨a, b⟩ | ⟨a, b⟩ | ⟨a, b⟩
        · omega
        · show (_ < _ ∨ _ ∧ _) ↔ _
          exact ⟨fun h => h.elim (fun h => by omega) fun h => h.2, fun h => .inr ⟨a, h⟩⟩
        · omega
    · show ¬ LexLt l m
      rw [hi, List.drop_of_length_le (by omega), List.drop_of_length_le (by omega)]
      exact fun h => h
  · rintro (_ | r) hr
    · exact Ok.ite (fun h => Ok.ret fun e => by omega) fun h => Ok.ret fun e => ⟨fun h => by omega, fun h => absurd h (hr e)⟩
    · exact Ok.ret hr
def Lbl.k (a : Lbl) : Int × List Int := (a.cost, a.l)
open Classical in
theorem lessL_p {a b : Lbl} (ha : a.l.length ≤ 1099511627776) (hb : b.l.length ≤ 1099511627776) : route_label_less a b = some (decide (LLt a.k b.k)) := by
  unfold route_label_less
  rw [compareL_p, compareL_p, bsome, bsome]
  refine Ok.eq (Ok.bind (cmpL_p ha hb) fun r hr => ?_)
  rw [orL_p, bsome]
  refine Ok.ret (decide_eq_decide.2 ?_)
  unfold LLt Lbl.k
  show _ ↔ a.cost < b.cost ∨ a.cost = b.cost ∧ (a.l.length < b.l.length ∨ a.l.length = b.l.length ∧ LexLt a.l b.l)
  rcases compareI_c a.cost b.cost with ⟨h, e⟩ | ⟨h, e⟩ | ⟨h, e⟩
  · rw [e, if_neg (by omega)]; exact ⟨fun _ => .inl h, fun _ => by omega⟩
  · rw [e, if_pos rfl]
    rcases compareI_c (a.l.length : Int) (b.l.length : Int) with ⟨k, f⟩ | ⟨k, f⟩ | ⟨k, f⟩
    · rw [f, if_neg (by omega)]; exact ⟨fun _ => .inr ⟨h, .inl (by omega)⟩, fun _ => by omega⟩
    · rw [f, if_pos rfl, hr (by omega)]
      exact ⟨fun g => .inr ⟨h, .inr ⟨by omega, g⟩⟩, fun g => (by
        rcases g with g | ⟨_, g | ⟨_, g⟩⟩
        · omega
        · omega
        · exact g)⟩
    · rw [f, if_neg (by omega)]; exact ⟨fun _ => by omega, fun g => by omega⟩
  · rw [e, if_neg (by omega)]; exact ⟨fun _ => by omega, fun g => by omega⟩
end Go.Proofs.YthdbofgcckjopaaGreat
set_option linter.unusedVariables false
set_option linter.unusedSimpArgs false
set_option maxRecDepth 20000
namespace Go.Proofs.YthdbofgcckjopaaGreat
open Go.Vg Sp Qp
namespace RC
variable {x : RC}
/-! ### Routes that end right behind a portal -/
inductive Arr (x : RC) (s : Int) : List Int → Int → Int → Prop
  | one {p : Int} (hp : x.Pl p) (h : 0 ≤ x.dd s (x.T (ot p))) : Arr x s [p / 2] (x.dd s (x.T (ot p)) + x.ov (p / 2)) p
  | more {q p c : Int} {L : List Int} (r : Arr x s L c q) (hp : x.Pl p) (h : 0 ≤ x.dd (x.T q) (x.T (ot p))) : Arr x s (L ++ [p / 2]) (c + x.dd (x.T q) (x.T (ot p)) + x.ov (p / 2)) p
theorem Arr.pl {s c p : Int} {L : List Int} (r : Arr x s L c p) : x.Pl p := by
  cases r with
  | one hp _ => exact hp
  | more _ hp _ => exact hp
theorem Arr.rt (ho : x.Ok) {s c p : Int} {L : List Int} (hs : x.In s) (r : Arr x s L c p) : ∀ {u c' : Int} {M : List Int}, Rt x (x.T p) M c' u → Rt x s (L ++ M) (c + c') u := by
  induction r with
  | @one p hp h =>
    intro u c' M k
    have h2 := Rt.cons hs (ot_pl hp) h (by rw [ot_ot]; exact k)
    rw [ot_half] at h2
    exact h2
  | @more q p c L r hp h ih =>
    intro u c' M k
    have h2 := Rt.cons (plOk ho r.pl).i (ot_pl hp) h (by rw [ot_ot]; exact k)
    rw [ot_half] at h2
    have h3 := ih h2
    rw [List.append_assoc, show c + x.dd (x.T q) (x.T (ot p)) + x.ov (p / 2) + c' = c + (x.dd (x.T q) (x.T (ot p)) + x.ov (p / 2) + c') by omega]
    exact h3
theorem Arr.to (ho : x.Ok) {s c p u : Int} {L : List Int} (hs : x.In s) (r : Arr x s L c p) (hu : x.In u) (h : 0 ≤ x.dd (x.T p) u) : Rt x s L (c + x.dd (x.T p) u) u := by
  have := r.rt ho hs (.nil (plOk ho r.pl).i hu h)
  rw [List.append_nil] at this
  exact this
theorem Arr.front (ho : x.Ok) {s p : Int} (hp : x.Pl p) (h : 0 ≤ x.dd s (x.T p)) {L : List Int} {c q : Int} (r : Arr x (x.T (ot p)) L c q) : Arr x s (p / 2 :: L) (x.dd s (x.T p) + x.ov (p / 2) + c) q := by
  induction r with
  | @one q hq k =>
    have h1 := Arr.one (x := x) (s := s) (ot_pl hp) (by rw [ot_ot]; exact h)
    rw [ot_ot, ot_half] at h1
    have h2 := Arr.more h1 hq k
    rw [show x.dd s (x.T p) + x.ov (p / 2) + (x.dd (x.T (ot p)) (x.T (ot q)) + x.ov (q / 2)) = x.dd s (x.T p) + x.ov (p / 2) + x.dd (x.T (ot p)) (x.T (ot q)) + x.ov (q / 2) by omega]
    exact h2
  | @more q p' c L r hq k ih =>
    have h2 := Arr.more ih hq k
    rw [show x.dd s (x.T p) + x.ov (p / 2) + (c + x.dd (x.T q) (x.T (ot p')) + x.ov (p' / 2)) = x.dd s (x.T p) + x.ov (p / 2) + c + x.dd (x.T q) (x.T (ot p')) + x.ov (p' / 2) by omega]
    exact h2
theorem Rt.arr (ho : x.Ok) {s u c : Int} {L : List Int} (r : Rt x s L c u) : (L = [] ∧ 0 ≤ x.dd s u ∧ c = x.dd s u) ∨ ∃ p c', Arr x s L c' p ∧ 0 ≤ x.dd (x.T p) u ∧ c = c' + x.dd (x.T p) u := by
  induction r with
  | nil ht hu h => exact .inl ⟨rfl, h, rfl⟩
  | @cons t p c u L ht hp h r ih =>
    rcases ih with ⟨rfl, h1, rfl⟩ | ⟨q, c', h1, h2, rfl⟩
    · refine .inr ⟨ot p, _, ?_, h1, rfl⟩
      have h3 := Arr.one (x := x) (s := t) (ot_pl hp) (by rw [ot_ot]; exact h)
      rw [ot_ot, ot_half] at h3
      exact h3
    · exact .inr ⟨q, _, Arr.front ho hp h h1, h2, by omega⟩
theorem Arr.bd (ho : x.Ok) {s c p : Int} {L : List Int} (hs : x.In s) (r : Arr x s L c p) : 0 ≤ c ∧ c ≤ 2000000 * (L.length : Int) := by
  induction r with
  | @one p hp h =>
    have h1 := (plOk ho hp).ov
    have h2 := dd_bd ho hs (plOk ho (ot_pl hp)).i
    simp only [List.length_singleton]
    omega
  | @more q p c L r hp h ih =>
    have h1 := (plOk ho hp).ov
    have h2 := dd_bd ho (plOk ho r.pl).i (plOk ho (ot_pl hp)).i
    rw [List.length_append, List.length_singleton]
    omega
/-! ### What a search keeps -/
/-- All that a way to a tile leads on to is known, as good or better. -/
def Cl (x : RC) (y : Srs) (t : Int) (a : Int × List Int) : Prop := ∀ p, x.Pl p → 0 ≤ x.dd t (x.T (ot p)) → ∃ b, kget y.best p = some b ∧ LLe b.k (a.1 + x.dd t (x.T (ot p)) + x.ov (p / 2), a.2 ++ [p / 2])
structure DS (x : RC) (s fl : Int) (n : Nat) (y : Srs) (Q : List Itm) : Prop where
  B : ∀ p a, kget y.best p = some a → Arr x s a.l a.cost p ∧ a.l.length ≤ n
  D : ∀ p, kget y.done p = some true → ∃ a, kget y.best p = some a ∧ a.cost ≤ fl
  W : ∀ p a, kget y.best p = some a → ¬ kget y.done p = some true → (⟨a.cost, p⟩ : Itm) ∈ Q
  I : ∀ it ∈ Q, fl ≤ it.key ∧ ∃ a, kget y.best it.val = some a ∧ a.cost ≤ it.key
/-- From one state to a later one. -/
structure Up (y y' : Srs) : Prop where
  d : ∀ p, kget y.done p = some true → kget y'.done p = some true ∧ kget y'.best p = kget y.best p
  b : ∀ p a, kget y.best p = some a → ∃ b, kget y'.best p = some b ∧ LLe b.k a.k
theorem Up.refl (y : Srs) : Up y y := ⟨fun p h => ⟨h, rfl⟩, fun p a h => ⟨a, h, LLe.refl _⟩⟩
theorem Up.trans {y y' y'' : Srs} (h : Up y y') (k : Up y' y'') : Up y y'' :=
  ⟨fun p hd => by
    have h1 := h.d p hd
    have h2 := k.d p h1.1
    exact ⟨h2.1, h2.2.trans h1.2⟩, fun p a ha => by
    obtain ⟨b, h1, h2⟩ := h.b p a ha
    obtain ⟨c, h3, h4⟩ := k.b p b h1
    exact ⟨c, h3, h4.trans h2⟩⟩
theorem Cl.up {y y' : Srs} {t : Int} {a : Int × List Int} (h : Cl x y t a) (k : Up y y') : Cl x y' t a := fun p hp hd => by
  obtain ⟨b, h1, h2⟩ := h p hp hd
  obtain ⟨c, h3, h4⟩ := k.b p b h1
  exact ⟨c, h3, h4.trans h2⟩
theorem DS.congr {s fl : Int} {n : Nat} {y : Srs} {Q Q' : List Itm} (h : DS x s fl n y Q) (hm : ∀ it, it ∈ Q ↔ it ∈ Q') : DS x s fl n y Q' :=
  ⟨h.B, h.D, fun p a ha hd => (hm _).1 (h.W p a ha hd), fun it hi => h.I it ((hm _).2 hi)⟩
theorem DS.more {s fl : Int} {n m : Nat} {y : Srs} {Q : List Itm} (h : DS x s fl n y Q) (hm : n ≤ m) : DS x s fl m y Q :=
  ⟨fun p a ha => ⟨(h.B p a ha).1, by have := (h.B p a ha).2; omega⟩, h.D, h.W, h.I⟩
/-- A better way is put down. -/
theorem DS.put {s fl : Int} {n : Nat} {y : Srs} {Q Q' : List Itm} {q : Que} {p : Int} {a : Lbl} (h : DS x s fl n y Q) (hr : Arr x s a.l a.cost p) (hl : a.l.length ≤ n) (hf : fl ≤ a.cost) (hd : ¬ kget y.done p = some true)
    (hb : ∀ b, kget y.best p = some b → LLt a.k b.k) (hQ : ∀ it, it ∈ Q' ↔ it = ⟨a.cost, p⟩ ∨ it ∈ Q) : DS x s fl n ⟨kput y.best p a, y.done, q⟩ Q' ∧ Up y ⟨kput y.best p a, y.done, q⟩ := by
  refine ⟨⟨fun p' b hb' => ?_, fun p' hp' => ?_, fun p' b hb' hd' => ?_, fun it hi => ?_⟩, ⟨fun p' hp' => ?_, fun p' b hb' => ?_⟩⟩
  · dsimp only at hb'
    rw [kget_put] at hb'
    by_cases e : p' = p
    · rw [if_pos e] at hb'; cases hb'; rw [e]; exact ⟨hr, hl⟩
    · rw [if_neg e] at hb'; exact h.B p' b hb'
  · dsimp only at hp' ⊢
    rw [kget_put, if_neg (fun e : p' = p => hd (e ▸ hp'))]
    exact h.D p' hp'
  · dsimp only at hb' hd'
    rw [kget_put] at hb'
    by_cases e : p' = p
    · rw [if_pos e] at hb'; cases hb'; rw [e]; exact (hQ _).2 (.inl rfl)
    · rw [if_neg e] at hb'; exact (hQ _).2 (.inr (h.W p' b hb' hd'))
  · dsimp only
    rcases (hQ it).1 hi with rfl | hi
    · exact ⟨hf, a, by rw [kget_put, if_pos rfl], Int.le_refl _⟩
    · obtain ⟨h1, b, h2, h3⟩ := h.I it hi
      refine ⟨h1, ?_⟩
      by_cases e : it.val = p
      · refine ⟨a, by rw [kget_put, if_pos e], ?_⟩
        have := (show LLe a.k b.k from fun hh => LLt.irr _ ((hb b (e ▸ h2)).trans hh)).fst
        have : a.cost ≤ b.cost := this
        omega
      · exact ⟨b, by rw [kget_put, if_neg e]; exact h2, h3⟩
  · dsimp only
    rw [kget_put, if_neg (fun e : p' = p => hd (e ▸ hp'))]
    exact ⟨hp', rfl⟩
  · dsimp only
    rw [kget_put]
    by_cases e : p' = p
    · rw [if_pos e]
      exact ⟨a, rfl, fun hh => LLt.irr _ ((hb b (e ▸ hb')).trans hh)⟩
    · rw [if_neg e]; exact ⟨b, hb', LLe.refl _⟩
/-- A place is done. -/
theorem DS.done {s fl c : Int} {n : Nat} {y : Srs} {Q : List Itm} {p : Int} {a : Lbl} (h : DS x s fl n y (⟨c, p⟩ :: Q)) (ha : kget y.best p = some a) (hd : ¬ kget y.done p = some true) (hc : c = a.cost) (hm : ∀ it ∈ Q, c ≤ it.key) :
    DS x s c n ⟨y.best, kput y.done p true, y.q⟩ Q ∧ Up y ⟨y.best, kput y.done p true, y.q⟩ := by
  have hfl : fl ≤ c := (h.I ⟨c, p⟩ (List.mem_cons_self ..)).1
  refine ⟨⟨h.B, fun p' hp' => ?_, fun p' b hb' hd' => ?_, fun it hi => ⟨hm it hi, (h.I it (List.mem_cons_of_mem _ hi)).2⟩⟩, ⟨fun p' hp' => ⟨?_, rfl⟩, fun p' b hb' => ⟨b, hb', LLe.refl _⟩⟩⟩
  · dsimp only at hp' ⊢
    rw [kget_put] at hp'
    by_cases e : p' = p
    · rw [e]; exact ⟨a, ha, by omega⟩
    · rw [if_neg e] at hp'
      obtain ⟨b, h1, h2⟩ := h.D p' hp'
      exact ⟨b, h1, by omega⟩
  · dsimp only at hb' hd'
    rw [kget_put] at hd'
    have e : ¬ p' = p := fun e => hd' (by rw [if_pos e])
    rw [if_neg e] at hd'
    rcases List.mem_cons.1 (h.W p' b hb' hd') with h1 | h1
    · exact absurd (congrArg Itm.val h1) e
    · exact h1
  · dsimp only
    rw [kget_put]
    by_cases e : p' = p
    · rw [if_pos e]
    · rw [if_neg e]; exact hp'
/-- One that is done already, or that has become better since, is let go. -/
theorem DS.skip {s fl c : Int} {n : Nat} {y : Srs} {Q : List Itm} {p : Int} (h : DS x s fl n y (⟨c, p⟩ :: Q)) (hs : kget y.done p = some true ∨ ∀ a, kget y.best p = some a → a.cost < c) : DS x s fl n y Q := by
  refine ⟨h.B, h.D, fun p' b hb hd => ?_, fun it hi => h.I it (List.mem_cons_of_mem _ hi)⟩
  rcases List.mem_cons.1 (h.W p' b hb hd) with h1 | h1
  · have e1 : p' = p := congrArg Itm.val h1
    have e2 : b.cost = c := congrArg Itm.key h1
    rcases hs with hs | hs
    · exact absurd (e1 ▸ hs) hd
    · have := hs b (e1 ▸ hb); omega
  · exact h1
/-- What the candidates are. -/
structure CD (x : RC) (s g : Int) (y : Srs) (b : Lbl) (ok : Bool) : Prop where
  r : ok = true → Rt x s b.l b.cost g
  s : 0 ≤ x.dd s g → ok = true ∧ LLe b.k (x.dd s g, [])
  d : ∀ p a, kget y.done p = some true → kget y.best p = some a → 0 ≤ x.dd (x.T p) g → ok = true ∧ LLe b.k (a.cost + x.dd (x.T p) g, a.l)
/-- All routes that are not as long as all that waits are known. -/
theorem DS.far (ho : x.Ok) {s fl : Int} {n : Nat} {y : Srs} {Q : List Itm} (hs : x.In s) (h : DS x s fl n y Q) (h0 : Cl x y s (0, [])) (hc : ∀ p a, kget y.done p = some true → kget y.best p = some a → Cl x y (x.T p) a.k) {F : Int} (hF : ∀ it ∈ Q, F ≤ it.key)
    {L : List Int} {c p : Int} (r : Arr x s L c p) : (∃ a, kget y.best p = some a ∧ LLe a.k (c, L) ∧ kget y.done p = some true) ∨ F ≤ c := by
  have key : ∀ {p c : Int} {L : List Int}, (∃ b, kget y.best p = some b ∧ LLe b.k (c, L)) → (∃ a, kget y.best p = some a ∧ LLe a.k (c, L) ∧ kget y.done p = some true) ∨ F ≤ c := fun {p c L} ⟨b, h1, h2⟩ => by
    by_cases hd : kget y.done p = some true
    · exact .inl ⟨b, h1, h2, hd⟩
    · have h3 := hF _ (h.W p b h1 hd)
      have h4 : b.cost ≤ c := h2.fst
      have h3 : F ≤ b.cost := h3
      exact .inr (by omega)
  induction r with
  | @one p hp hd =>
    have := h0 p hp hd
    simp only [Int.zero_add, List.nil_append] at this
    exact key this
  | @more q p c L r hp hd ih =>
    have ho1 := (plOk ho hp).ov
    rcases ih with ⟨a, h1, h2, h3⟩ | h1
    · obtain ⟨b, h4, h5⟩ := hc q a h3 h1 p hp hd
      refine key ⟨b, h4, h5.trans ?_⟩
      have := h2.app (x.dd (x.T q) (x.T (ot p)) + x.ov (p / 2)) [p / 2]
      rw [show c + x.dd (x.T q) (x.T (ot p)) + x.ov (p / 2) = c + (x.dd (x.T q) (x.T (ot p)) + x.ov (p / 2)) by omega, show a.k.1 + x.dd (x.T q) (x.T (ot p)) + x.ov (p / 2) = a.k.1 + (x.dd (x.T q) (x.T (ot p)) + x.ov (p / 2)) by omega]
      exact this
    · exact .inr (by omega)
/-- The end. -/
theorem DS.fin (ho : x.Ok) {s fl g : Int} {n : Nat} {y : Srs} {Q : List Itm} {b : Lbl} {ok : Bool} (hs : x.In s) (h : DS x s fl n y Q) (h0 : Cl x y s (0, [])) (hc : ∀ p a, kget y.done p = some true → kget y.best p = some a → Cl x y (x.T p) a.k)
    (k : CD x s g y b ok) (hQ : Q = [] ∨ (ok = true ∧ ∀ it ∈ Q, b.cost < it.key)) : (ok = true → Bst x s g b.cost b.l) ∧ (ok = false → ∀ L c, ¬ Rt x s L c g) := by
  have all : ∀ {L : List Int} {c : Int}, Rt x s L c g → ok = true ∧ LLe b.k (c, L) := fun {L c} r => by
    rcases r.arr ho with ⟨rfl, h1, rfl⟩ | ⟨p, c', h1, h2, rfl⟩
    · exact k.s h1
    · rcases hQ with rfl | ⟨hok, hQ⟩
      · rcases h.far ho hs h0 hc (F := c' + 1) (fun it hi => by cases hi) h1 with ⟨a, h3, h4, h5⟩ | h3
        · have h6 := k.d p a h5 h3 h2
          have h7 := h4.app (x.dd (x.T p) g) []
          rw [List.append_nil, List.append_nil] at h7
          exact ⟨h6.1, h6.2.trans h7⟩
        · omega
      · rcases h.far ho hs h0 hc (F := b.cost + 1) (fun it hi => by have := hQ it hi; omega) h1 with ⟨a, h3, h4, h5⟩ | h3
        · have h6 := k.d p a h5 h3 h2
          have h7 := h4.app (x.dd (x.T p) g) []
          rw [List.append_nil, List.append_nil] at h7
          exact ⟨h6.1, h6.2.trans h7⟩
        · exact ⟨hok, LLe.of_lt (by show b.cost < c' + x.dd (x.T p) g; omega)⟩
  refine ⟨fun hok => ⟨k.r hok, fun L c r => (all r).2⟩, fun hok L c r => ?_⟩
  rw [(all r).1] at hok; cases hok
end RC
end Go.Proofs.YthdbofgcckjopaaGreat
set_option linter.unusedVariables false
set_option linter.unusedSimpArgs false
set_option maxRecDepth 20000
namespace Go.Proofs.YthdbofgcckjopaaGreat
open Go.Vg Sp Qp RC
/-- A maze of these. -/
structure MzOk (x : RC) (m : Mz) : Prop where
  net : m.net = ⟨x.g, x.c, x.fr⟩
  ps : m.ps = x.ps
  len : x.ps.length ≤ 5000
structure MxOk (x : RC) (X : Mx) : Prop where
  z : MzOk x X.z
  mem : ∀ s p, p ∈ (kget X.at_ s).getD [] ↔ x.Pl p ∧ x.sec (x.T p) = s
  len : ∀ s, ((kget X.at_ s).getD []).length ≤ 10000
variable {x : RC}
theorem in_bd (ho : x.Ok) {t : Int} (ht : x.In t) : 0 ≤ t ∧ t < x.g.w * x.g.h ∧ t < 16384 := by
  have := ho.hg.area
  have h2 : t < x.g.w * x.g.h := ht.2
  exact ⟨ht.1, h2, by omega⟩
theorem mtile_p {m : Mz} (hm : MzOk x m) {p : Int} (hp : x.Pl p) : route_maze_tile m p = some (x.T p) := by
  have hl := hm.len
  have h1 := pl_half hp
  have h2 : p < 2 * (x.ps.length : Int) := hp.2
  have h3 := hp.1
  unfold route_maze_tile
  rw [hm.ps, if_pos (by omega)]
  unfold RC.T
  by_cases h : p % 2 = 0
  · rw [if_pos h, if_pos h, if_pos (by omega), if_pos h1]
  · rw [if_neg h, if_neg h, if_pos (by omega), if_pos h1]
def spt (w t : Int) : Int := t % w % 8 + 8 * (t / w % 8)
theorem spt_bd (w t : Int) : 0 ≤ spt w t ∧ spt w t < 64 := by unfold spt; omega
theorem spt_inj {w t u : Int} (hw : 1 ≤ w) (ht : 0 ≤ t) (hu : 0 ≤ u) (hs : atS w t = atS w u) (he : spt w t = spt w u) : t = u := by
  have h1 := divmod hw ht
  have h2 := divmod hw hu
  have e1 : ∀ {v : Int}, 0 ≤ v → atS w v % acr w = v % w / 8 ∧ atS w v / acr w = v / w / 8 := fun {v} hv => by
    have h := divmod hw hv
    have q0 : 0 ≤ v % w / 8 ∧ v % w / 8 < acr w := by unfold acr; omega
    unfold atS
    exact ⟨by rw [Int.add_mul_emod_self_left, Int.emod_eq_of_lt q0.1 q0.2], by rw [Int.add_mul_ediv_left _ _ (by omega), Int.ediv_eq_zero_of_lt q0.1 q0.2]; omega⟩
  have a := e1 ht
  have b := e1 hu
  rw [hs] at a
  unfold spt at he
  have m1 : t % w = u % w := by omega
  have m2 : t / w = u / w := by omega
  rw [← h1.2.2.2.2, ← h2.2.2.2.2, m1, m2]
theorem mspot_p (ho : x.Ok) {m : Mz} (hm : MzOk x m) {t : Int} (ht : x.In t) : route_maze_spot m t = some (spt x.g.w t) := by
  have h := in_bd ho ht
  have hw : 1 ≤ x.g.w ∧ x.g.w ≤ 128 := ho.hg.1
  have hd := divmod hw.1 h.1
  have hb := spt_bd x.g.w t
  unfold route_maze_spot
  rw [hm.net]
  dsimp only
  rw [if_pos (by omega), if_pos (by omega), if_pos (by omega), if_pos (by omega), if_pos (by unfold I64; omega), if_pos (by unfold I64; omega)]
  rfl
theorem mover_p (ho : x.Ok) {m : Mz} (hm : MzOk x m) {k : Int} (hk : 0 ≤ k ∧ k < (x.ps.length : Int)) : route_maze_over m k = some (x.ov k) := by
  have h := ptOk ho (gi_mem hk)
  have hgt := ho.hg.2.2.2
  have hgl := ho.hg.2.2.1
  have a1 := in_bd ho h.a
  have b1 := in_bd ho h.b
  have ta := tc_bd ho.hg ho.hc ⟨a1.1, a1.2.1⟩
  have tb := tc_bd ho.hg ho.hc ⟨b1.1, b1.2.1⟩
  unfold route_maze_over
  rw [hm.ps, hm.net]
  dsimp only
  rw [if_pos hk, if_pos (by omega), price_p ho.hc ⟨by omega, hgt _ a1.1 (by omega)⟩, bsome, if_pos (by omega), price_p ho.hc ⟨by omega, hgt _ b1.1 (by omega)⟩, bsome]
  show (if I64 (tc x.g x.c (gi x.ps k).a + tc x.g x.c (gi x.ps k).b) then _ else none) = _
  rw [if_pos (by unfold I64; omega)]
  show (if I64 (5 * (tc x.g x.c (gi x.ps k).a + tc x.g x.c (gi x.ps k).b)) then _ else none) = _
  rw [if_pos (by unfold I64; omega)]
  rfl
theorem rowL_p (ho : x.Ok) {m : Mz} (hm : MzOk x m) {all : List Int} {s : Int} (ha : (all.length : Int) = x.g.w * x.g.h) : ∀ (l d : List Int), (∀ v ∈ l, x.In v ∧ x.sec v = s) → d.length = 64 →
    Ok (rowL m all l d) fun d' => d'.length = 64 ∧ ∀ u, x.In u → x.sec u = s → (u ∈ l ∨ gi d (spt x.g.w u) = gi all u) → gi d' (spt x.g.w u) = gi all u
  | [], d, _, hd => Ok.ret ⟨hd, fun u _ _ h => h.elim (fun h => by cases h) id⟩
  | v :: r, d, hl, hd => by
    obtain ⟨hv, hvs⟩ := hl v (List.mem_cons_self ..)
    have hb := in_bd ho hv
    have hs := spt_bd x.g.w v
    unfold rowL
    rw [mspot_p ho hm hv, bsome]
    refine Ok.gd (by omega) (Ok.gd (by omega) (Ok.mono (rowL_p ho hm ha r (si d (spt x.g.w v) (gi all v)) (fun u hu => hl u (List.mem_cons_of_mem _ hu)) (by rw [len_si]; exact hd)) ?_))
    rintro d' ⟨h1, h2⟩
    refine ⟨h1, fun u hu hus h => h2 u hu hus ?_⟩
    have hu0 := in_bd ho hu
    have hsu := spt_bd x.g.w u
    by_cases e : spt x.g.w v = spt x.g.w u
    · have : v = u := spt_inj ho.hg.1.1 hb.1 hu0.1 (hvs.trans hus.symm) e
      subst this
      exact .inr (gi_si_self (by omega))
    · rcases h with h | h
      · rcases List.mem_cons.1 h with rfl | h
        · exact absurd rfl e
        · exact .inl h
      · exact .inr (by rw [gi_si_ne hs.1 hsu.1 e]; exact h)
theorem mrow_p (ho : x.Ok) {m : Mz} (hm : MzOk x m) {t : Int} (ht : x.In t) : Ok (mz_row m t) fun d => d.length = 64 ∧ ∀ u, x.In u → x.sec u = x.sec t → gi d (spt x.g.w u) = x.dd t u := by
  have hb := in_bd ho ht
  have hw : 1 ≤ x.g.w ∧ x.g.w ≤ 128 := ho.hg.1
  have hmay : May x.g.w x.g.h := ⟨ho.hg.1, ho.hg.2.1⟩
  unfold mz_row
  rw [hm.net]
  dsimp only
  rw [at_p hw (by omega), bsome]
  refine Ok.bind (from_s (s := x.sec t) (f := inSec x.g.w (atS x.g.w t)) ho.hg ho.hc ho.hf ⟨hb.1, hb.2.1⟩ rfl fun u hu => ?_) fun all hall => ?_
  · unfold inSec
    have := in_bd ho (t := u) hu
    rw [at_p hw (by omega), bsome]
    rfl
  · refine Ok.bind (tilesP_b hmay (atS_bd hmay ⟨hb.1, hb.2.1⟩)) fun tl htl => ?_
    refine Ok.mono (rowL_p ho hm (s := x.sec t) hall.len tl (List.replicate 64 0) (fun v hv => ?_) (by simp)) ?_
    · obtain ⟨h0, h1, h2⟩ := (htl.1.1 v).1 hv
      exact ⟨⟨h0, h1⟩, h2⟩
    · rintro d ⟨h1, h2⟩
      refine ⟨h1, fun u hu hus => ?_⟩
      rw [h2 u hu hus (.inl ((htl.1.1 u).2 ⟨hu.1, hu.2, hus⟩))]
      unfold dd
      rw [ddL_of ho hall]
theorem mfar_p (ho : x.Ok) {X : Mx} (hm : MzOk x X.z) {t u : Int} (ht : x.In t) (hu : x.In u) (hs : x.sec u = x.sec t) : mx_far X t u = some (x.dd t u) := by
  unfold mx_far
  refine Ok.eq (Ok.bind (mrow_p ho hm ht) fun d hd => ?_)
  have := spt_bd x.g.w u
  rw [mspot_p ho hm hu, bsome, if_pos (by omega)]
  exact Ok.ret (hd.2 u hu hs)
theorem kt {β : Type} {o : Option Bool} : o.getD false = true ↔ o = some true := by
  cases o with
  | none => simp
  | some b => cases b <;> simp
open Classical in
theorem spreadL_p (ho : x.Ok) {X : Mx} (hX : MzOk x X.z) {s fl t : Int} {n : Nat} {way : Lbl} (ht : x.In t) (hn : n ≤ 20000) (hw0 : 0 ≤ way.cost ∧ way.cost ≤ 2000000 * (way.l.length : Int)) (hwl : way.l.length + 1 ≤ n) (hfl : fl ≤ way.cost)
    (harr : ∀ p, x.Pl p → 0 ≤ x.dd t (x.T (ot p)) → Arr x s (way.l ++ [p / 2]) (way.cost + x.dd t (x.T (ot p)) + x.ov (p / 2)) p) :
    ∀ (l : List Int) (y : Srs), (∀ p ∈ l, x.Pl p ∧ x.sec (x.T p) = x.sec t) → DS x s fl n y y.q.l → Heap y.q.l → y.q.l.length + l.length < 1000000000000 →
      Ok (spreadL X t way l y) fun y' => (DS x s fl n y' y'.q.l ∧ Heap y'.q.l ∧ y'.q.l.length ≤ y.q.l.length + l.length) ∧ (Up y y' ∧ y'.done = y.done) ∧
        ∀ p ∈ l, 0 ≤ x.dd t (x.T p) → ∃ b, kget y'.best (ot p) = some b ∧ LLe b.k (way.cost + x.dd t (x.T p) + x.ov (p / 2), way.l ++ [p / 2])
  | [], y, _, hd, hh, _ => Ok.ret ⟨⟨hd, hh, by simp⟩, ⟨Up.refl y, rfl⟩, fun p hp => by cases hp⟩
  | p :: r, y, hl, hd, hh, hq => by
    obtain ⟨hp, hps⟩ := hl p (List.mem_cons_self ..)
    have hpo := plOk ho hp
    have hp2 : p < 2 * (x.ps.length : Int) := hp.2
    have hp1 := hp.1
    have hov := hpo.ov
    have hlen := hX.len
    have hdb := RC.dd_bd ho ht hpo.i
    simp only [List.length_cons] at hq
    -- on from a state in which this one is cared for
    have step : ∀ y1, DS x s fl n y1 y1.q.l → Heap y1.q.l → y1.q.l.length ≤ y.q.l.length + 1 → Up y y1 → y1.done = y.done → (0 ≤ x.dd t (x.T p) → ∃ b, kget y1.best (ot p) = some b ∧ LLe b.k (way.cost + x.dd t (x.T p) + x.ov (p / 2), way.l ++ [p / 2])) →
        Ok (spreadL X t way r y1) fun y' => (DS x s fl n y' y'.q.l ∧ Heap y'.q.l ∧ y'.q.l.length ≤ y.q.l.length + (p :: r).length) ∧ (Up y y' ∧ y'.done = y.done) ∧
          ∀ p' ∈ p :: r, 0 ≤ x.dd t (x.T p') → ∃ b, kget y'.best (ot p') = some b ∧ LLe b.k (way.cost + x.dd t (x.T p') + x.ov (p' / 2), way.l ++ [p' / 2]) := fun y1 a1 a2 a3 a4 a5 a6 => by
      refine Ok.mono (spreadL_p ho hX ht hn hw0 hwl hfl harr r y1 (fun u hu => hl u (List.mem_cons_of_mem _ hu)) a1 a2 (by omega)) ?_
      rintro y' ⟨⟨b1, b2, b3⟩, ⟨b4, b5⟩, b6⟩
      refine ⟨⟨b1, b2, by simp only [List.length_cons]; omega⟩, ⟨a4.trans b4, b5.trans a5⟩, fun p' hp' h0 => ?_⟩
      rcases List.mem_cons.1 hp' with rfl | hp'
      · obtain ⟨b, c1, c2⟩ := a6 h0
        obtain ⟨c, c3, c4⟩ := b4.b _ b c1
        exact ⟨c, c3, c4.trans c2⟩
      · exact b6 p' hp' h0
    unfold spreadL
    rw [mtile_p hX hp, bsome, mfar_p ho hX ht hpo.i hps, bsome]
    refine Ok.ite (fun hneg => step y hd hh (by omega) (Up.refl y) rfl (fun h => by omega)) fun hpos => ?_
    refine Ok.gd (by omega) (Ok.gd (by unfold I64; omega) ?_)
    rw [mover_p ho hX (pl_half hp), bsome]
    refine Ok.gd (by unfold I64; omega) ?_
    unfold slices_Clone_Int
    rw [if_pos (by omega), bsome]
    refine Ok.gd (by omega) ?_
    have hop : x.Pl (ot p) := ot_pl hp
    have ha := harr (ot p) hop (by rw [ot_ot]; omega)
    rw [ot_ot, ot_half] at ha
    have hal : (way.l ++ [p / 2]).length ≤ n := by simp; omega
    show Ok (if (kget y.done (ot p)).getD false = true then _ else _) _
    refine Ok.ite (fun hdone => ?_) fun hdone => ?_
    · obtain ⟨b, h1, h2⟩ := hd.D _ ((kt (β := Unit)).1 hdone)
      exact step y hd hh (by omega) (Up.refl y) rfl fun _ => ⟨b, h1, LLe.of_lt (by show b.cost < way.cost + x.dd t (x.T p) + x.ov (p / 2); omega)⟩
    · have hnd : ¬ kget y.done (ot p) = some true := fun e => hdone ((kt (β := Unit)).2 e)
      have hbr : Ok (match kget y.best (ot p) with | none => some true | some old => route_label_less ⟨way.cost + x.dd t (x.T p) + x.ov (p / 2), way.l ++ [p / 2]⟩ old) fun b => (b = true → ∀ o, kget y.best (ot p) = some o → LLt (way.cost + x.dd t (x.T p) + x.ov (p / 2), way.l ++ [p / 2]) o.k) ∧
          (b = false → ∃ o, kget y.best (ot p) = some o ∧ LLe o.k (way.cost + x.dd t (x.T p) + x.ov (p / 2), way.l ++ [p / 2])) := by
        cases hb : kget y.best (ot p) with
        | none => exact Ok.ret ⟨fun _ o ho => (by cases ho), fun e => by cases e⟩
        | some old =>
          have := (hd.B _ _ hb).2
          dsimp only
          rw [lessL_p (by show (way.l ++ [p / 2]).length ≤ _; omega) (by omega)]
          refine Ok.ret ⟨fun e o ho => ?_, fun e => ⟨old, rfl, of_decide_eq_false e⟩⟩
          cases ho
          exact of_decide_eq_true e
      refine Ok.bind hbr fun b hb => Ok.ite (fun hbt => ?_) fun hbf => ?_
      · refine Ok.bind (push_p hh (by omega) _ _) fun q hqq => ?_
        have hput := hd.put (q := q) (p := ot p) (a := ⟨way.cost + x.dd t (x.T p) + x.ov (p / 2), way.l ++ [p / 2]⟩) (Q' := q.l) ha hal (by show fl ≤ way.cost + x.dd t (x.T p) + x.ov (p / 2); omega) hnd (hb.1 hbt) (fun it => by rw [hqq.2.mem_iff, List.mem_cons]; exact Iff.rfl)
        refine step _ hput.1 hqq.1 ?_ hput.2 rfl fun _ => ⟨⟨way.cost + x.dd t (x.T p) + x.ov (p / 2), way.l ++ [p / 2]⟩, ?_, LLe.refl _⟩
        · have := hqq.2.length_eq
          simp only [List.length_cons] at this
          show q.l.length ≤ _
          omega
        · show kget (kput y.best (ot p) _) (ot p) = _
          rw [kget_put, if_pos rfl]
      · exact step y hd hh (by omega) (Up.refl y) rfl fun _ => hb.2 (by simpa using hbf)
theorem mspread_p (ho : x.Ok) {X : Mx} (hX : MxOk x X) {s fl t : Int} {n : Nat} {way : Lbl} {y : Srs} (ht : x.In t) (hn : n ≤ 20000) (hw0 : 0 ≤ way.cost ∧ way.cost ≤ 2000000 * (way.l.length : Int)) (hwl : way.l.length + 1 ≤ n) (hfl : fl ≤ way.cost)
    (harr : ∀ p, x.Pl p → 0 ≤ x.dd t (x.T (ot p)) → Arr x s (way.l ++ [p / 2]) (way.cost + x.dd t (x.T (ot p)) + x.ov (p / 2)) p) (hd : DS x s fl n y y.q.l) (hh : Heap y.q.l) (hq : y.q.l.length < 500000000000) :
    Ok (mx_spread X t way y) fun y' => (DS x s fl n y' y'.q.l ∧ Heap y'.q.l ∧ y'.q.l.length ≤ y.q.l.length + 10000) ∧ (Up y y' ∧ y'.done = y.done) ∧ Cl x y' t way.k := by
  have hb := in_bd ho ht
  have hl := hX.len (x.sec t)
  unfold mx_spread
  rw [hX.z.net]
  dsimp only
  rw [at_p ho.hg.1 (by omega), bsome]
  show Ok (if ((kget X.at_ (x.sec t)).getD []).length < 1099511627776 then spreadL X t way ((kget X.at_ (x.sec t)).getD []) y else none) _
  refine Ok.gd (by omega) (Ok.mono (spreadL_p ho hX.z ht hn hw0 hwl hfl harr _ y (fun p hp => (hX.mem _ p).1 hp) hd hh (by omega)) ?_)
  rintro y' ⟨⟨h1, h2, h3⟩, h4, h5⟩
  refine ⟨⟨h1, h2, by omega⟩, h4, fun p hp h0 => ?_⟩
  have := h5 (ot p) ((hX.mem _ _).2 ⟨ot_pl hp, (RC.dd_of ho ht (plOk ho (ot_pl hp)).i h0).2.2.1⟩) h0
  rw [ot_ot, ot_half] at this
  exact this
open Classical in
theorem mend_p (ho : x.Ok) {X : Mx} (hX : MzOk x X.z) {g t : Int} {way b : Lbl} {ok : Bool} (ht : x.In t) (hg : x.In g) (hw0 : 0 ≤ way.cost ∧ way.cost ≤ 100000000000) (hwl : way.l.length ≤ 20000) (hbl : b.l.length ≤ 20000) :
    Ok (mx_end X (x.sec g) g t way b ok) fun e => (e.2 = true → (ok = true ∧ e.1 = b) ∨ (0 ≤ x.dd t g ∧ e.1 = ⟨way.cost + x.dd t g, way.l⟩)) ∧ (ok = true → e.2 = true ∧ LLe e.1.k b.k) ∧ (0 ≤ x.dd t g → e.2 = true ∧ LLe e.1.k (way.cost + x.dd t g, way.l)) ∧ (e.1 = b ∨ e.1.l = way.l) := by
  have hb := in_bd ho ht
  have hdb := RC.dd_bd ho ht hg
  unfold mx_end
  rw [hX.net]
  dsimp only
  rw [at_p ho.hg.1 (by omega), bsome]
  show Ok (if x.sec t = x.sec g then _ else _) _
  refine Ok.ite (fun hs => ?_) fun hs => Ok.ret ⟨fun e => .inl ⟨e, rfl⟩, fun e => ⟨e, LLe.refl _⟩, fun h => absurd (RC.dd_of ho ht hg h).2.2.1.symm hs, .inl rfl⟩
  rw [mfar_p ho hX ht hg hs.symm, bsome]
  refine Ok.gd (by unfold I64; omega) (Ok.ite (fun h0 => ?_) fun h0 => Ok.ret ⟨fun e => .inl ⟨e, rfl⟩, fun e => ⟨e, LLe.refl _⟩, fun h => absurd h h0, .inl rfl⟩)
  refine Ok.ite (fun hok => ?_) fun hok => Ok.ret ⟨fun _ => .inr ⟨h0, rfl⟩, fun e => absurd e hok, fun _ => ⟨rfl, LLe.refl _⟩, .inr rfl⟩
  rw [lessL_p (by show way.l.length ≤ _; omega) (by omega), bsome]
  refine Ok.ite (fun hc => ?_) fun hc => ?_
  · have hc := of_decide_eq_true hc
    exact Ok.ret ⟨fun _ => .inr ⟨h0, rfl⟩, fun _ => ⟨rfl, fun hh => LLt.irr _ (hc.trans hh)⟩, fun _ => ⟨rfl, LLe.refl _⟩, .inr rfl⟩
  · have hc := of_decide_eq_false (by simpa using hc)
    exact Ok.ret ⟨fun _ => .inl ⟨hok, rfl⟩, fun _ => ⟨hok, LLe.refl _⟩, fun _ => ⟨hok, hc⟩, .inl rfl⟩
/-! ### What is not done yet -/
def und (D : List (Int × Bool)) : Nat → Nat
  | 0 => 0
  | k + 1 => und D k + (if (kget D (k : Int)).getD false = true then 0 else 1)
theorem und_ne {D : List (Int × Bool)} {p : Int} : ∀ k : Nat, (k : Int) ≤ p → und (kput D p true) k = und D k
  | 0, _ => rfl
  | k + 1, h => by unfold und; rw [und_ne k (by omega), kget_put, if_neg (show ¬ (k : Int) = p by omega)]
theorem und_put {D : List (Int × Bool)} {p : Int} (h0 : 0 ≤ p) (hp : ¬ (kget D p).getD false = true) : ∀ k : Nat, p < (k : Int) → und (kput D p true) k + 1 = und D k
  | 0, h => by omega
  | k + 1, h => by
    unfold und
    by_cases e : (k : Int) = p
    · rw [und_ne k (by omega), kget_put, if_pos e, e, if_neg hp]
      simp
    · have := und_put h0 hp k (by omega)
      rw [kget_put, if_neg e]; omega
/-! ### The search -/
def Qq (z : FS) : List Itm := if z.more = true then ⟨z.cost, z.place⟩ :: z.y.q.l else []
structure FI (x : RC) (s g : Int) (N : Nat) (z : FS) : Prop where
  d : ∃ fl, DS x s fl N z.y (Qq z)
  m : z.more = true → ∀ it ∈ z.y.q.l, z.cost ≤ it.key
  c0 : Cl x z.y s (0, [])
  c : ∀ p a, kget z.y.done p = some true → kget z.y.best p = some a → Cl x z.y (x.T p) a.k
  cd : CD x s g z.y z.b z.ok
  h : Heap z.y.q.l
  bl : z.b.l.length ≤ N
theorem mpop_p {s g fl : Int} {N : Nat} {y : Srs} {b : Lbl} {ok : Bool} (hd : DS x s fl N y y.q.l) (h0 : Cl x y s (0, [])) (hc : ∀ p a, kget y.done p = some true → kget y.best p = some a → Cl x y (x.T p) a.k) (hcd : CD x s g y b ok) (hh : Heap y.q.l)
    (hq : y.q.l.length < 1000000000000) (hbl : b.l.length ≤ N) : Ok (queue_Queue_Pop y.q) fun z => FI x s g N ⟨z.1, z.2.1, z.2.2.1, ⟨y.best, y.done, z.2.2.2⟩, b, ok⟩ ∧ (Qq ⟨z.1, z.2.1, z.2.2.1, ⟨y.best, y.done, z.2.2.2⟩, b, ok⟩).length = y.q.l.length := by
  refine Ok.mono (pop_p hh hq) ?_
  rintro ⟨k, v, more, q⟩ (⟨h1, h2, h3⟩ | ⟨h1, h2, h3, h4⟩)
  · dsimp only at h2 h3
    subst h2; subst h3
    rw [h1] at hd
    exact ⟨⟨⟨fl, ⟨hd.B, hd.D, hd.W, hd.I⟩⟩, (fun e => by cases e), h0, hc, ⟨hcd.r, hcd.s, hcd.d⟩, hh, hbl⟩, by unfold Qq; rw [h1]; rfl⟩
  · dsimp only at h1 h2 h3 h4
    subst h1
    have e : Qq ⟨k, v, true, ⟨y.best, y.done, q⟩, b, ok⟩ = ⟨k, v⟩ :: q.l := rfl
    refine ⟨⟨⟨fl, ?_⟩, fun _ it hi => ?_, h0, hc, ⟨hcd.r, hcd.s, hcd.d⟩, h2, hbl⟩, by rw [e]; exact h3.length_eq⟩
    · rw [e]
      have := hd.congr (Q' := ⟨k, v⟩ :: q.l) fun it => h3.mem_iff.symm
      exact ⟨this.B, this.D, this.W, this.I⟩
    · have := h4 it (h3.mem_iff.1 (List.mem_cons_of_mem _ hi))
      unfold Itm.Lt at this
      show k ≤ it.key
      dsimp only at this
      omega
def FR (x : RC) (s g : Int) (e : Lbl × Bool) : Prop := ((e.2 = true → Bst x s g e.1.cost e.1.l) ∧ (e.2 = false → ∀ L c, ¬ Rt x s L c g)) ∧ e.1.l.length ≤ 20000
theorem wadd {U0 U1 q Q n : Nat} (h : U1 + 1 = U0) (h1 : U0 * 10001 + (q + 1) < n + 1) (h2 : U0 * 10001 + (q + 1) ≤ 200000000) (h3 : Q ≤ q + 10000) : U1 * 10001 + Q < n ∧ U1 * 10001 + Q ≤ 200000000 := by omega
theorem findN_p (ho : x.Ok) {X : Mx} (hX : MxOk x X) {s g : Int} (hs : x.In s) (hg : x.In g) : ∀ (n : Nat) (z : FS) (N : Nat), FI x s g N z → N + und z.y.done (2 * x.ps.length) = 2 * x.ps.length + 1 → und z.y.done (2 * x.ps.length) * 10001 + (Qq z).length < n → und z.y.done (2 * x.ps.length) * 10001 + (Qq z).length ≤ 200000000 → Ok (findN X (x.sec g) g n z) (FR x s g) := by
  intro n
  induction n with
  | zero => intro z N _ _ h _; omega
  | succ n ih =>
    intro z N hI hN hn hmax
    have hlen := hX.z.len
    obtain ⟨fl, hd⟩ := hI.d
    unfold findN
    refine Ok.ite (fun hm => ?_) fun hm => ?_
    · have eQ : Qq z = ⟨z.cost, z.place⟩ :: z.y.q.l := if_pos hm
      rw [eQ] at hd
      have hql : (Qq z).length = z.y.q.l.length + 1 := by rw [eQ]; rfl
      obtain ⟨hfl, a0, ha0, hac⟩ := hd.I _ (List.mem_cons_self ..)
      have ha0 : kget z.y.best z.place = some a0 := ha0
      have hac : a0.cost ≤ z.cost := hac
      rw [ha0]
      show Ok (if (kget z.y.done z.place).getD false = true ∨ a0.cost < z.cost then _ else _) _
      refine Ok.ite (fun hsk => ?_) fun hsk => ?_
      · have hd2 := hd.skip (hsk.elim (fun h => .inl ((kt (β := Unit)).1 h)) fun h => .inr fun a ha => by rw [ha0] at ha; cases ha; exact h)
        refine Ok.bind (mpop_p hd2 hI.c0 hI.c hI.cd hI.h (by omega) hI.bl) fun r hr => ?_
        refine ih _ N hr.1 hN ?_ ?_
        · show und z.y.done _ * 10001 + _ < n
          rw [hr.2]; omega
        · show und z.y.done _ * 10001 + _ ≤ _
          rw [hr.2]; omega
      · have hnd : ¬ (kget z.y.done z.place).getD false = true := fun h => hsk (.inl h)
        have hcost : z.cost = a0.cost := by have := fun h => hsk (.inr h); omega
        refine Ok.ite (fun hbr => ?_) fun hbr => ?_
        · refine Ok.ret ⟨hd.fin ho hs hI.c0 hI.c hI.cd (.inr ⟨hbr.1, fun it hi => ?_⟩), by have := hI.bl; show z.b.l.length ≤ _; omega⟩
          rcases List.mem_cons.1 hi with rfl | hi
          · exact hbr.2
          · have := hI.m hm it hi; have := hbr.2; show z.b.cost < it.key; omega
        · have harr := (hd.B _ _ ha0).1
          have hal := (hd.B _ _ ha0).2
          have hpl := harr.pl
          have hpo := plOk ho hpl
          have hbd := harr.bd ho hs
          have hplM : z.place < 2 * (x.ps.length : Int) := hpl.2
          rw [mtile_p hX.z hpl, bsome]
          show Ok (Option.bind (mx_end X (x.sec g) g (x.T z.place) a0 z.b z.ok) _) _
          refine Ok.bind (mend_p ho hX.z hpo.i hg (by omega) (by omega) (by have := hI.bl; omega)) fun e he => ?_
          have hdone := hd.done ha0 (fun e => hnd ((kt (β := Unit)).2 e)) hcost (hI.m hm)
          have hund := und_put (D := z.y.done) hpl.1 hnd (2 * x.ps.length) (by omega)
          have hm1 := hdone.1.more (m := N + 1) (by omega)
          refine Ok.bind (mspread_p ho hX (s := s) (fl := z.cost) (n := N + 1) (way := a0) (y := ⟨z.y.best, kput z.y.done z.place true, z.y.q⟩) hpo.i (by omega) (by omega) (by omega) (by omega) (fun p hp h0 => Arr.more harr hp h0) ⟨hm1.B, hm1.D, hm1.W, hm1.I⟩ hI.h (by show z.y.q.l.length < _; omega)) fun y hy => ?_
          obtain ⟨⟨y1, y2, y3⟩, ⟨y4, y5⟩, y6⟩ := hy
          have hup := hdone.2.trans y4
          have y3 : y.q.l.length ≤ z.y.q.l.length + 10000 := y3
          have y5 : y.done = kput z.y.done z.place true := y5
          have hbest : ∀ {a}, kget y.best z.place = some a → a = a0 := fun {a} ha => by
            rw [(y4.d z.place (by show kget (kput z.y.done z.place true) z.place = some true; rw [kget_put, if_pos rfl])).2] at ha
            have ha : kget z.y.best z.place = some a := ha
            rw [ha0] at ha; cases ha; rfl
          have hc2 : ∀ p a, kget y.done p = some true → kget y.best p = some a → Cl x y (x.T p) a.k := fun p a hp ha => by
            rw [y5, kget_put] at hp
            by_cases ep : p = z.place
            · subst ep
              rw [hbest ha]; exact y6
            · rw [if_neg ep] at hp
              rw [(hup.d p hp).2] at ha
              exact (hI.c p a hp ha).up hup
          have hcd2 : CD x s g y e.1 e.2 := by
            refine ⟨fun hok => ?_, fun h0 => ?_, fun p a hp ha h0 => ?_⟩
            · rcases he.1 hok with ⟨h1, h2⟩ | ⟨h1, h2⟩
              · rw [h2]; exact hI.cd.r h1
              · rw [h2]; exact harr.to ho hs hg h1
            · obtain ⟨h1, h2⟩ := hI.cd.s h0
              obtain ⟨h3, h4⟩ := he.2.1 h1
              exact ⟨h3, h4.trans h2⟩
            · rw [y5, kget_put] at hp
              by_cases ep : p = z.place
              · subst ep
                rw [hbest ha]
                exact he.2.2.1 h0
              · rw [if_neg ep] at hp
                rw [(hup.d p hp).2] at ha
                obtain ⟨h1, h2⟩ := hI.cd.d p a hp ha h0
                obtain ⟨h3, h4⟩ := he.2.1 h1
                exact ⟨h3, h4.trans h2⟩
          have hebl : e.1.l.length ≤ N + 1 := by
            rcases he.2.2.2 with h | h
            · rw [h]; have := hI.bl; omega
            · rw [h]; omega
          rw [hql] at hn hmax
          obtain ⟨w1, w2⟩ := wadd hund hn hmax y3
          rw [← y5] at w1 w2
          refine Ok.bind (mpop_p y1 (hI.c0.up hup) hc2 hcd2 y2 (by omega) hebl) fun r hr => ?_
          refine ih _ (N + 1) hr.1 ?_ ?_ ?_
          · show N + 1 + und y.done _ = _
            rw [y5]; omega
          · show und y.done (2 * x.ps.length) * 10001 + (Qq ⟨r.1, r.2.1, r.2.2.1, ⟨y.best, y.done, r.2.2.2⟩, e.1, e.2⟩).length < n
            rw [hr.2]; exact w1
          · show und y.done (2 * x.ps.length) * 10001 + (Qq ⟨r.1, r.2.1, r.2.2.1, ⟨y.best, y.done, r.2.2.2⟩, e.1, e.2⟩).length ≤ 200000000
            rw [hr.2]; exact w2
    · have eQ : Qq z = [] := if_neg hm
      rw [eQ] at hd
      exact Ok.ret ⟨hd.fin ho hs hI.c0 hI.c hI.cd (.inl rfl), by have := hI.bl; show z.b.l.length ≤ _; omega⟩
theorem mfind_p (ho : x.Ok) {X : Mx} (hX : MxOk x X) {s g : Int} (hs : x.In s) (hg : x.In g) : Ok (mx_find FUEL X s g) (FR x s g) := by
  have hb := in_bd ho hg
  have hlen := hX.z.len
  unfold mx_find
  rw [hX.z.net]
  dsimp only
  rw [at_p ho.hg.1 (by omega), bsome]
  show Ok (Option.bind (mx_end X (x.sec g) g s ⟨0, []⟩ ⟨0, []⟩ false) _) _
  refine Ok.bind (mend_p ho hX.z hs hg (by show (0 : Int) ≤ 0 ∧ (0 : Int) ≤ _; omega) (by show 0 ≤ _; omega) (by show 0 ≤ _; omega)) fun e he => ?_
  have hd0 : DS x s 0 1 ⟨[], [], ⟨[]⟩⟩ ([] : List Itm) := ⟨fun p a h => (by cases h), fun p h => (by cases h), fun p a h => (by cases h), fun it h => (by cases h)⟩
  refine Ok.bind (mspread_p ho hX (s := s) (fl := 0) (n := 1) (way := ⟨0, []⟩) (y := ⟨[], [], ⟨[]⟩⟩) hs (by omega) (by show (0 : Int) ≤ 0 ∧ (0 : Int) ≤ 2000000 * 0; omega) (by show 0 + 1 ≤ 1; omega) (by show (0 : Int) ≤ 0; omega) (fun p hp h0 => ?_) hd0 (fun j _ hj => by cases hj) (by show 0 < _; omega)) fun y hy => ?_
  · have := Arr.one hp h0
    show Arr x s ([] ++ [p / 2]) (0 + x.dd s (x.T (ot p)) + x.ov (p / 2)) p
    rw [List.nil_append, Int.zero_add]; exact this
  · obtain ⟨⟨y1, y2, y3⟩, ⟨y4, y5⟩, y6⟩ := hy
    have y3 : y.q.l.length ≤ 0 + 10000 := y3
    have y5 : y.done = [] := y5
    have hnone : ∀ p, ¬ kget y.done p = some true := fun p h => by rw [y5] at h; cases h
    have hebl : e.1.l.length ≤ 1 := by
      rcases he.2.2.2 with h | h <;> rw [h] <;> exact Nat.zero_le _
    have hcd : CD x s g y e.1 e.2 := by
      refine ⟨fun hok => ?_, fun h0 => ?_, fun p a hp => absurd hp (hnone p)⟩
      · rcases he.1 hok with ⟨h1, h2⟩ | ⟨h1, h2⟩
        · cases h1
        · rw [h2]
          show Rt x s [] (0 + x.dd s g) g
          rw [Int.zero_add]; exact .nil hs hg h1
      · obtain ⟨h1, h2⟩ := he.2.2.1 h0
        refine ⟨h1, ?_⟩
        have h2 : LLe e.1.k (0 + x.dd s g, []) := h2
        rw [Int.zero_add] at h2; exact h2
    have hund : und y.done (2 * x.ps.length) = 2 * x.ps.length := by
      rw [y5]
      have : ∀ k, und [] k = k := fun k => by
        induction k with
        | zero => rfl
        | succ k ih => unfold und; rw [ih]; rfl
      exact this _
    refine Ok.bind (mpop_p y1 y6 (fun p a hp => absurd hp (hnone p)) hcd y2 (by omega) hebl) fun r hr => ?_
    refine findN_p ho hX hs hg FUEL _ 1 hr.1 ?_ ?_ ?_
    · show 1 + und y.done _ = _
      rw [hund]; omega
    · show und y.done _ * 10001 + _ < FUEL
      rw [hr.2, hund]; unfold FUEL; omega
    · show und y.done _ * 10001 + _ ≤ _
      rw [hr.2, hund]; omega
/-! ### A maze -/
theorem atL_p (ho : x.Ok) : ∀ (l : List Prt) (k : Int) (A : List (Int × List Int)), (∀ i : Int, 0 ≤ i → i < (l.length : Int) → k + i < (x.ps.length : Int) ∧ gi l i = gi x.ps (k + i)) → 0 ≤ k → k + l.length ≤ 5000 → (∀ s, (((kget A s).getD []).length : Int) ≤ 2 * k) →
    (∀ s p, p ∈ (kget A s).getD [] ↔ (0 ≤ p ∧ p < 2 * k) ∧ x.sec (x.T p) = s) →
    Ok (atL x.g.w l k A) fun A' => (∀ s, (((kget A' s).getD []).length : Int) ≤ 2 * (k + l.length)) ∧ ∀ s p, p ∈ (kget A' s).getD [] ↔ (0 ≤ p ∧ p < 2 * (k + l.length)) ∧ x.sec (x.T p) = s
  | [], k, A, _, _, _, h1, h2 => Ok.ret (by simpa using ⟨h1, h2⟩)
  | p :: r, k, A, hl, hk, hb, h1, h2 => by
    obtain ⟨hk1, hp⟩ := hl 0 (by omega) (by simp)
    rw [Int.add_zero] at hk1 hp
    have hp : p = gi x.ps k := hp
    have hpo := ptOk ho (gi_mem (xs := x.ps) ⟨hk, hk1⟩)
    rw [← hp] at hpo
    have a1 := in_bd ho hpo.a
    have b1 := in_bd ho hpo.b
    simp only [List.length_cons] at hb
    have eA : ∀ v : Int, v = 2 * k → x.T v = p.a := fun v hv => by unfold RC.T; rw [hv, if_pos (by omega), show 2 * k / 2 = k by omega, ← hp]
    have eB : ∀ v : Int, v = 2 * k + 1 → x.T v = p.b := fun v hv => by unfold RC.T; rw [hv, if_neg (by omega), show (2 * k + 1) / 2 = k by omega, ← hp]
    unfold atL
    refine Ok.gd (by unfold I64; omega) ?_
    rw [at_p ho.hg.1 (by omega), bsome, at_p ho.hg.1 (by omega), bsome]
    have l1 := h1 (atS x.g.w p.a)
    obtain ⟨A1, hA1⟩ : ∃ A1, A1 = kput A (atS x.g.w p.a) ((kget A (atS x.g.w p.a)).getD [] ++ [2 * k]) := ⟨_, rfl⟩
    have g1 : ∀ s, (kget A1 s).getD [] = if s = x.sec p.a then (kget A s).getD [] ++ [2 * k] else (kget A s).getD [] := fun s => by
      rw [hA1, kget_put]
      show (if s = x.sec p.a then _ else _ : Option (List Int)).getD [] = _
      by_cases e : s = x.sec p.a
      · rw [if_pos e, if_pos e, e]; rfl
      · rw [if_neg e, if_neg e]
    obtain ⟨A2, hA2⟩ : ∃ A2, A2 = kput A1 (atS x.g.w p.b) ((kget A1 (atS x.g.w p.b)).getD [] ++ [2 * k + 1]) := ⟨_, rfl⟩
    have g2 : ∀ s, (kget A2 s).getD [] = if s = x.sec p.b then (kget A1 s).getD [] ++ [2 * k + 1] else (kget A1 s).getD [] := fun s => by
      rw [hA2, kget_put]
      show (if s = x.sec p.b then _ else _ : Option (List Int)).getD [] = _
      by_cases e : s = x.sec p.b
      · rw [if_pos e, if_pos e, e]; rfl
      · rw [if_neg e, if_neg e]
    have l2 : ∀ s, (((kget A1 s).getD []).length : Int) ≤ 2 * k + 1 := fun s => by
      have := h1 s
      rw [g1]; split <;> simp <;> omega
    have l3 : ∀ s, (((kget A2 s).getD []).length : Int) ≤ 2 * (k + 1) := fun s => by
      have := l2 s
      rw [g2]; split <;> simp <;> omega
    have l2b := l2 (atS x.g.w p.b)
    dsimp only
    rw [← hA1]
    refine Ok.gd (by omega) (Ok.gd (by omega) ?_)
    rw [← hA2]
    refine Ok.mono (atL_p ho r (k + 1) A2 (fun i i0 i1 => ?_) (by omega) (by omega) l3 fun s q => ?_) ?_
    · have := hl (i + 1) (by omega) (by simp; omega)
      have e : gi (p :: r) (i + 1) = gi r i := by
        show (p :: r).getD (i + 1).toNat default = r.getD i.toNat default
        rw [show (i + 1).toNat = i.toNat + 1 by omega]; rfl
      rw [e, show k + (i + 1) = k + 1 + i by omega] at this
      exact this
    · have m1 : q ∈ (kget A1 s).getD [] ↔ (0 ≤ q ∧ q < 2 * k + 1) ∧ x.sec (x.T q) = s := by
        rw [g1]
        by_cases e : s = x.sec p.a
        · rw [if_pos e, List.mem_append, h2, List.mem_singleton]
          constructor
          · rintro (⟨a, b⟩ | a)
            · exact ⟨by omega, b⟩
            · exact ⟨by omega, by rw [eA q a, e]⟩
          · rintro ⟨a, b⟩
            by_cases c : q = 2 * k
            · exact .inr c
            · exact .inl ⟨by omega, b⟩
        · rw [if_neg e, h2]
          refine ⟨fun ⟨a, b⟩ => ⟨by omega, b⟩, fun ⟨a, b⟩ => ⟨?_, b⟩⟩
          by_cases c : q = 2 * k
          · rw [eA q c] at b; exact absurd b.symm e
          · omega
      rw [g2]
      by_cases e : s = x.sec p.b
      · rw [if_pos e, List.mem_append, m1, List.mem_singleton]
        constructor
        · rintro (⟨a, b⟩ | a)
          · exact ⟨by omega, b⟩
          · exact ⟨by omega, by rw [eB q a, e]⟩
        · rintro ⟨a, b⟩
          by_cases c : q = 2 * k + 1
          · exact .inr c
          · exact .inl ⟨by omega, b⟩
      · rw [if_neg e, m1]
        refine ⟨fun ⟨a, b⟩ => ⟨by omega, b⟩, fun ⟨a, b⟩ => ⟨?_, b⟩⟩
        by_cases c : q = 2 * k + 1
        · rw [eB q c] at b; exact absurd b.symm e
        · omega
    · rintro A' ⟨c1, c2⟩
      simp only [List.length_cons]
      refine ⟨fun s => ?_, fun s q => ?_⟩
      · have := c1 s; omega
      · rw [c2, show k + 1 + (r.length : Int) = k + ((r.length + 1 : Nat) : Int) by omega]
/-- What a ground, its good tiles and their portals are. -/
def rc (g : Grd) (c : Int) (fr : List Bool) (ps : List Prt) : RC := ⟨g, c, fr, ps⟩
theorem fresh_p {g : Grd} {c : Int} {fr : List Bool} (hg : GOk g) (hc : 0 ≤ c ∧ c ≤ 2) (hf : (fr.length : Int) = g.w * g.h) (hpos : ∀ t : Int, 0 ≤ t → t < g.w * g.h → gi fr t = true → 0 < tc g c t) :
    Ok (route_fresh ⟨g, c, fr⟩) fun X => ∃ ps, portal_All g.w g.h fr = some ps ∧ (rc g c fr ps).Ok ∧ MxOk (rc g c fr ps) X := by
  unfold route_fresh
  obtain ⟨ps, hps, hok, hlen⟩ := all_p (W := g.w) (H := g.h) (fr := fr) ⟨hg.1, hg.2.1⟩ hf
  show Ok (Option.bind (portal_All g.w g.h fr) _) _
  rw [hps, bsome]
  have ho : (rc g c fr ps).Ok := ⟨hg, hc, hf, hpos, hok⟩
  refine Ok.gd (by omega) (Ok.bind (atL_p ho ps 0 [] (fun i i0 i1 => by rw [Int.zero_add]; exact ⟨i1, rfl⟩) (by omega) (by omega) (fun s => by show (((none : Option (List Int)).getD []).length : Int) ≤ _; simp) (fun s p => ⟨fun h => (by cases h), fun h => by omega⟩)) fun A hA => Ok.ret ?_)
  obtain ⟨h1, h2⟩ := hA
  refine ⟨ps, rfl, ho, ⟨⟨rfl, rfl, hlen⟩, fun s p => ?_, fun s => ?_⟩⟩
  · rw [h2, Int.zero_add]; exact Iff.rfl
  · have := h1 s; show ((kget A s).getD []).length ≤ _; omega
/-! ### The sectors of a way -/
theorem msecs_p (ho : x.Ok) {m : Mz} (hm : MzOk x m) {t : Int} (ht : x.In t) {l : List Int} (hl : l.length ≤ 100000) (hb : ∀ k : Int, 0 ≤ k → k < (l.length : Int) → 0 ≤ gi l k ∧ gi l k < (x.ps.length : Int)) :
    route_maze_sectors m t l = some (x.sec t :: secL x (x.sec t) l) := by
  have h0 := in_bd ho ht
  unfold route_maze_sectors
  rw [hm.net, hm.ps]
  dsimp only
  rw [at_p ho.hg.1 (by omega), bsome]
  refine Ok.eq (Ok.bind (R := fun r => r = x.sec t :: secL x (x.sec t) l) (Ok.loop (fun z : Int × Int × List Int => (0 ≤ z.2.1 ∧ z.2.1 ≤ l.length) ∧ (z.2.2.length : Int) = 1 + z.2.1 ∧ x.sec t :: secL x (x.sec t) l = z.2.2 ++ secL x z.1 (l.drop z.2.1.toNat)) (fun z => (l.length - z.2.1).toNat) ⟨by show (0 : Int) ≤ 0 ∧ (0 : Int) ≤ l.length; omega, by simp, rfl⟩ (by unfold FUEL; show ((l.length : Int) - 0).toNat < _; omega) ?_) (fun r hr => Ok.ret hr))
  rintro ⟨s, i, r⟩ ⟨⟨i0, i1⟩, hrl, he⟩
  dsimp only at i0 i1 hrl he ⊢
  refine Ok.ite (fun hi => ?_) fun hi => Ok.ret ?_
  · obtain ⟨k0, k1⟩ := hb i i0 hi
    have hpo := ptOk ho (gi_mem (xs := x.ps) ⟨k0, k1⟩)
    have a1 := in_bd ho hpo.a
    have b1 := in_bd ho hpo.b
    rw [if_pos ⟨i0, hi⟩, if_pos ⟨k0, k1⟩, at_p ho.hg.1 (by omega), bsome, at_p ho.hg.1 (by omega), bsome]
    rw [drop_gi ⟨i0, hi⟩] at he
    simp only [secL] at he
    refine Ok.ite (fun h => Ok.gd (by omega) (Ok.gd (by unfold I64; omega) (Ok.ret ⟨⟨⟨by show 0 ≤ i + 1; omega, by show i + 1 ≤ _; omega⟩, by simp; omega, ?_⟩, by show ((l.length : Int) - (i + 1)).toNat < _; omega⟩))) fun h => Ok.gd (by omega) (Ok.gd (by unfold I64; omega) (Ok.ret ⟨⟨⟨by show 0 ≤ i + 1; omega, by show i + 1 ≤ _; omega⟩, by simp; omega, ?_⟩, by show ((l.length : Int) - (i + 1)).toNat < _; omega⟩))
    · have h : s = x.sec (gi x.ps (gi l i)).a := h
      rw [if_pos h] at he
      rw [he, List.append_assoc]; rfl
    · have h : ¬ s = x.sec (gi x.ps (gi l i)).a := h
      rw [if_neg h] at he
      rw [he, List.append_assoc]; rfl
  · obtain rfl : i = l.length := by omega
    rw [he]
    simp [secL]
end Go.Proofs.YthdbofgcckjopaaGreat
