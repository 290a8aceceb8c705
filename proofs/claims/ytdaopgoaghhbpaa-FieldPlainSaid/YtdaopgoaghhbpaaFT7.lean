/-
  FieldPlain, as a pure function, is true. For arguments that are Go's.
-/
import Derived.Test.YtdaopgoaghhbpaaFY
import Derived.Test.YtdaopgoaghhbpaaFT1
import Derived.Test.YtdaopgoaghhbpaaFG7
set_option linter.unusedVariables false
set_option linter.unusedSimpArgs false
namespace Go.Proofs.Ytdaopgoaghhbpaa
open Go.Vg
/-- A plain ground. -/
def gp (w h : Int) : Grd := ⟨w, h, List.replicate (w * h).toNat (0 : UInt8)⟩
def oc (dx dy : Int) : Int := 28 * (min (max dx (-dx)) (max dy (-dy))) + 20 * (max (max dx (-dx)) (max dy (-dy)) - min (max dx (-dx)) (max dy (-dy)))
def oct (w goal t : Int) : Int := oc (t % w - goal % w) (t / w - goal / w)
theorem oc_step {x y a b : Int} (ha : -1 ≤ a ∧ a ≤ 1) (hb : -1 ≤ b ∧ b ≤ 1) (hn : ¬ (a = 0 ∧ b = 0)) : oc (x + a) (y + b) ≤ oc x y + (if a = 0 ∨ b = 0 then 5 else 7) * 4 := by
  unfold oc
  have h1 : a = -1 ∨ a = 0 ∨ a = 1 := by omega
  have h2 : b = -1 ∨ b = 0 ∨ b = 1 := by omega
  split
  · rcases h1 with rfl | rfl | rfl <;> rcases h2 with rfl | rfl | rfl <;> omega
  · rcases h1 with rfl | rfl | rfl <;> rcases h2 with rfl | rfl | rfl <;> omega
def sgn (x : Int) : Int := if 0 < x then -1 else if x < 0 then 1 else 0
theorem sgn_bd (x : Int) : -1 ≤ sgn x ∧ sgn x ≤ 1 := by unfold sgn; split <;> (try split) <;> omega
theorem sgn_z {x : Int} : sgn x = 0 ↔ x = 0 := by unfold sgn; split <;> (try split) <;> omega
theorem oc_back {x y : Int} : oc (x + sgn x) (y + sgn y) + (if -sgn x = 0 ∨ -sgn y = 0 then 5 else 7) * 4 = oc x y ∨ (x = 0 ∧ y = 0) := by
  by_cases h0 : x = 0 ∧ y = 0
  · exact .inr h0
  refine .inl ?_
  unfold oc sgn
  by_cases hx : 0 < x
  · by_cases hy : 0 < y
    · rw [if_pos hx, if_pos hy, if_neg (by omega)]; omega
    · by_cases hy' : y < 0
      · rw [if_pos hx, if_neg hy, if_pos hy', if_neg (by omega)]; omega
      · rw [if_pos hx, if_neg hy, if_neg hy', if_pos (by omega)]; omega
  · by_cases hx' : x < 0
    · by_cases hy : 0 < y
      · rw [if_neg hx, if_pos hx', if_pos hy, if_neg (by omega)]; omega
      · by_cases hy' : y < 0
        · rw [if_neg hx, if_pos hx', if_neg hy, if_pos hy', if_neg (by omega)]; omega
        · rw [if_neg hx, if_pos hx', if_neg hy, if_neg hy', if_pos (by omega)]; omega
    · by_cases hy : 0 < y
      · rw [if_neg hx, if_neg hx', if_pos hy, if_pos (by omega)]; omega
      · by_cases hy' : y < 0
        · rw [if_neg hx, if_neg hx', if_neg hy, if_pos hy', if_pos (by omega)]; omega
        · omega
theorem plain_make {w h goal : Int} (hw : 1 ≤ w ∧ w ≤ 128) (hh : 1 ≤ h ∧ h ≤ 128) (hgo : 0 ≤ goal ∧ goal < w * h) : Ok (field_Make (gp w h) [] 0 0 goal) fun r => r.2 = 0 ∧ (r.1.length : Int) = w * h ∧ ∀ t : Int, 0 ≤ t → t < w * h → gi r.1 t = oct w goal t := by
  have hnn : 0 ≤ w * h := Int.mul_nonneg (by omega) (by omega)
  have htl : ((gp w h).tiles.length : Int) = w * h := by show ((List.replicate (w * h).toNat (0 : UInt8)).length : Int) = _; rw [List.length_replicate]; omega
  have hz : ∀ t : Int, 0 ≤ t → t < w * h → gi (gp w h).tiles t = 0 := fun t t0 t1 => gi_replicate ⟨t0, by omega⟩
  have hg : GOk (gp w h) := ⟨hw, hh, htl, fun i i0 i1 => by rw [hz i i0 (by omega)]; decide⟩
  have har : 1 ≤ w * h ∧ w * h ≤ 16384 := hg.area
  have hA : AOk (gp w h) [] 0 0 := ⟨⟨hg, by simp, fun i i1 i2 => (by have : i < 0 := i2; omega), fun i i0 i1 => (by have : i < 0 := i1; omega), fun i k k0 k1 i1 => (by have : i < 0 := i1; omega)⟩, by omega, by omega⟩
  refine Ok.mono (make_b hA (goal := goal) hgo (by omega) (by simp)) ?_
  rintro ⟨d, e⟩ ⟨h0, fr, hfr, hd⟩
  dsimp only at h0 hd ⊢
  refine ⟨h0, hd.len, ?_⟩
  have hall : ∀ t : Int, 0 ≤ t → t < w * h → gi fr t = true := fun t t0 t1 => by
    obtain ⟨o, k, ho, hk, hf⟩ := hfr
    refine (hf.2 t t0 t1).2 ?_
    have hot : gi o t = true := (ho.2 t t0 (by omega)).2 ⟨fun ⟨i, i0, i1, _⟩ => (by have : i < 0 := i1; omega), by rw [hz t t0 t1]; decide⟩
    obtain ⟨hon, he⟩ := On.of hg ⟨t0, t1⟩
    obtain ⟨dx, dy, _, _, h3⟩ := hk.sup _ _ hon (by rw [he]; exact hot)
    have h4 := KP.nn hg hk (t % (gp w h).w + dx) (t / (gp w h).w + dy)
    rw [KP.on hon, he] at h3
    omega
  have htc : ∀ x y, On (gp w h) x y → tc (gp w h) 0 (x + w * y) = 2 := fun x y ho => by
    have hb := (ho.bd hg).1
    have hb : 0 ≤ x + w * y ∧ x + w * y < w * h := hb
    unfold tc
    rw [hz _ hb.1 hb.2]; rfl
  have hFO : ∀ x y, On (gp w h) x y → FO (gp w h) fr x y := fun x y ho => by
    have hb := (ho.bd hg).1
    exact ⟨ho, hall _ hb.1 hb.2⟩
  rcases hd.is with ⟨_, hL⟩ | ⟨hn, _⟩
  · have hL' : LD ((gp w h).w * (gp w h).h) (Ed (gp w h) 0 fr) goal ((List.range (w * h).toNat).map fun n : Nat => oct w goal (n : Int)) := by
      have hgi : ∀ t : Int, 0 ≤ t → t < w * h → gi ((List.range (w * h).toNat).map fun n : Nat => oct w goal (n : Int)) t = oct w goal t := fun t t0 t1 => by
        unfold gi
        rw [List.getD_eq_getElem?_getD, List.getElem?_map, List.getElem?_range (by omega)]
        simp only [Option.map_some, Option.getD_some]
        rw [Int.toNat_of_nonneg t0]
      have hnn : ∀ a b, 0 ≤ oc a b := fun a b => by unfold oc; omega
      refine ⟨by rw [List.length_map, List.length_range]; show ((w * h).toNat : Int) = w * h; omega, fun t t0 t1 => ?_, ?_, fun t u k ht h0 hE => ?_, fun t ht hne h0 => ?_⟩
      · have := hnn (t % w - goal % w) (t / w - goal / w)
        rw [hgi t t0 t1]; unfold oct; omega
      · rw [hgi goal hgo.1 hgo.2]; unfold oct
        rw [Int.sub_self, Int.sub_self]; rfl
      · have ht : 0 ≤ t ∧ t < w * h := ht
        obtain ⟨hon, he⟩ := On.of hg ht
        obtain ⟨a, b, hu, hS⟩ := (Ed.iff hg ht).1 hE
        have hub := (hS.to.1.bd hg).1
        have hxy := hS.to.1.xy
        have hk := hS.cost
        have h1 := htc _ _ hon
        have h2 := htc _ _ hS.to.1
        have h1 : tc (gp w h) 0 (t % (gp w h).w + (gp w h).w * (t / (gp w h).w)) = 2 := h1
        have h2 : tc (gp w h) 0 (t % (gp w h).w + a + (gp w h).w * (t / (gp w h).w + b)) = 2 := h2
        rw [h1, h2] at hk
        rw [← hu] at hub hxy
        have hub : 0 ≤ u ∧ u < w * h := hub
        have hxy : u / w = t / w + b ∧ u % w = t % w + a := hxy
        rw [hgi t ht.1 ht.2, hgi u hub.1 hub.2]
        unfold oct
        rw [hxy.1, hxy.2, show t % w + a - goal % w = (t % w - goal % w) + a by omega, show t / w + b - goal / w = (t / w - goal / w) + b by omega]
        have := oc_step (x := t % w - goal % w) (y := t / w - goal / w) hS.a1 hS.b1 hS.ne
        exact ⟨hnn _ _, by rw [hk]; exact this⟩
      · have ht : 0 ≤ t ∧ t < w * h := ht
        obtain ⟨hon, he⟩ := On.of hg ht
        obtain ⟨hong, heg⟩ := On.of hg (t := goal) hgo
        have hon : (0 ≤ t % w ∧ t % w < w) ∧ (0 ≤ t / w ∧ t / w < h) := hon
        have hong : (0 ≤ goal % w ∧ goal % w < w) ∧ (0 ≤ goal / w ∧ goal / w < h) := hong
        have he : t % w + w * (t / w) = t := he
        have heg : goal % w + w * (goal / w) = goal := heg
        have hback := oc_back (x := t % w - goal % w) (y := t / w - goal / w)
        have hnz : ¬ (t % w - goal % w = 0 ∧ t / w - goal / w = 0) := fun ⟨e1, e2⟩ => hne (by rw [← he, ← heg, show t % w = goal % w by omega, show t / w = goal / w by omega])
        rcases hback with hback | hbad
        · obtain ⟨p, hp⟩ : ∃ p, p = sgn (t % w - goal % w) := ⟨_, rfl⟩
          obtain ⟨q, hq⟩ : ∃ q, q = sgn (t / w - goal / w) := ⟨_, rfl⟩
          rw [← hp, ← hq] at hback
          have hpb := sgn_bd (t % w - goal % w)
          have hqb := sgn_bd (t / w - goal / w)
          have hpz := sgn_z (x := t % w - goal % w)
          have hqz := sgn_z (x := t / w - goal / w)
          have hx : 0 ≤ t % w + p ∧ t % w + p < w := by rw [hp]; unfold sgn; split <;> (try split) <;> omega
          have hy : 0 ≤ t / w + q ∧ t / w + q < h := by rw [hq]; unfold sgn; split <;> (try split) <;> omega
          rw [← hp] at hpb hpz
          rw [← hq] at hqb hqz
          have hou : On (gp w h) (t % w + p) (t / w + q) := ⟨hx, hy⟩
          have hub := (hou.bd hg).1
          have hub : 0 ≤ t % w + p + w * (t / w + q) ∧ t % w + p + w * (t / w + q) < w * h := hub
          have hxy := hou.xy
          have hxy : (t % w + p + w * (t / w + q)) / w = t / w + q ∧ (t % w + p + w * (t / w + q)) % w = t % w + p := hxy
          have c1 : t % w + p + -p = t % w := by omega
          have c2 : t / w + q + -q = t / w := by omega
          refine ⟨t % w + p + w * (t / w + q), (if -p = 0 ∨ -q = 0 then 5 else 7) * 4, hub, (Ed.iff hg hub).2 ⟨-p, -q, ?_, ?_⟩, by split <;> omega, ?_, ?_⟩
          · show t = (t % w + p + w * (t / w + q)) % w + -p + w * ((t % w + p + w * (t / w + q)) / w + -q)
            rw [hxy.1, hxy.2, c1, c2, he]
          · show SE (gp w h) 0 fr ((t % w + p + w * (t / w + q)) % w) ((t % w + p + w * (t / w + q)) / w) (-p) (-q) _
            rw [hxy.1, hxy.2]
            refine ⟨by omega, by omega, by omega, by rw [c1, c2]; exact hFO _ _ hon, ?_, ?_, by split <;> omega⟩
            · show _ = _ * (tc (gp w h) 0 (t % w + p + w * (t / w + q)) + tc (gp w h) 0 (t % w + p + -p + w * (t / w + q + -q)))
              rw [c1, c2, htc _ _ hou, htc _ _ hon]; rfl
            · rw [c1, c2]
              exact .inr ⟨hFO _ _ ⟨hon.1, hy⟩, hFO _ _ ⟨hx, hon.2⟩⟩
          · rw [hgi _ hub.1 hub.2]; exact hnn _ _
          · rw [hgi _ hub.1 hub.2, hgi t ht.1 ht.2]
            unfold oct
            rw [hxy.1, hxy.2, show t % w + p - goal % w = (t % w - goal % w) + p by omega, show t / w + q - goal / w = (t / w - goal / w) + q by omega]
            exact hback
        · exact absurd hbad hnz
    intro t t0 t1
    rw [hL.uniq hL']
    unfold gi
    rw [List.getD_eq_getElem?_getD, List.getElem?_map, List.getElem?_range (by omega)]
    simp only [Option.map_some, Option.getD_some]
    rw [Int.toNat_of_nonneg t0]
  · exact absurd (hall goal hgo.1 hgo.2) hn
/-- Over the places from a to n, where the end is met just there; nothing ends it early. -/
theorem scanMx7 {β : Type} {f : Int → Option (St Int (Ex Unit β))} {a n : Int} (hn : n - a < 9223372036854775808)
    (step : ∀ v, a ≤ v → v < n → Ok (f v) fun y => y = .next (v + 1))
    (fin : ∀ v, v = max a n → f v = some (St.done (Ex.go ()))) : Ok (loop f a) fun x => match x with | .go _ => True | .up _ => False := by
  refine Ok.loop (fun v => a ≤ v ∧ v ≤ max a n) (fun v => (n - v).toNat) ⟨Int.le_refl _, by omega⟩ (by unfold FUEL; omega) ?_
  rintro v ⟨h1, hm⟩
  by_cases hv : v < n
  · obtain ⟨y, hy, rfl⟩ := step v h1 hv
    exact ⟨_, hy, ⟨by omega, by omega⟩, by omega⟩
  · rw [fin v (by omega)]
    exact Ok.ret trivial
theorem plain_law {p : Ask13} (hs : I64 p.size) (hts : (p.ts.length : Int) ≤ 9223372036854775807) : thronglaw13_FieldPlain p = some true := by
  unfold thronglaw13_FieldPlain
  refine Ok.eq (Ok.bind (scanOk (a := 0) (n := 3) (fun _ => True) (fun _ => False) (by omega) (fun v v0 v1 _ => ?_) (fun v v0 v1 => by rw [if_neg (by omega)])) ?_)
  · rw [if_pos v1]
    refine Ok.gd (by omega) (Ok.gd (by unfold I64; omega) (Ok.gd (by unfold I64; omega) (Ok.gd (by unfold I64; omega) (Ok.gd (by unfold I64; omega) (Ok.gd (by unfold I64; omega) ?_)))))
    obtain ⟨W, hW⟩ : ∃ W, W = (1 + (p.ts.length : Int) % 7) + v := ⟨_, rfl⟩
    obtain ⟨H, hH⟩ : ∃ H, H = (1 + p.size % 4) + 2 * v := ⟨_, rfl⟩
    rw [← hW, ← hH]
    have hWb : 1 ≤ W ∧ W ≤ 9 := by omega
    have hHb : 1 ≤ H ∧ H ≤ 8 := by omega
    have hA1 : W * H ≤ 9 * 8 := Int.le_trans (Int.mul_le_mul_of_nonneg_right hWb.2 (by omega)) (by omega)
    have hA0 : 1 ≤ W * H := Int.mul_pos (by omega) (by omega)
    refine Ok.gd (by unfold I64; omega) (Ok.gd (by omega) ?_)
    refine Ok.bind (R := fun x => match x with | .go _ => True | .up _ => False) (Ok.loop (fun z : Int => 0 ≤ z) (fun z => (W * H - z).toNat) (Int.le_refl _) (by unfold FUEL; omega) (fun z z0 => ?_)) ?_
    · refine Ok.gd (by unfold I64; omega) (Ok.ite (fun hz => ?_) (fun hz => Ok.ret trivial))
      obtain ⟨r, e, h0, hl, hr⟩ := plain_make (w := W) (h := H) (goal := z) (by omega) (by omega) ⟨z0, hz⟩
      unfold gp at e
      rw [e, bsome, num13_p, bsome]
      refine Ok.gd (fun _ => by unfold I64; omega) (Ok.ite (fun h => ?_) (fun _ => ?_))
      · rcases h with h | h
        · exact absurd h0 h
        · exact absurd hl h
      · refine Ok.bind (scanMx7 (a := 0) (n := W * H) (by omega) (fun t t0 t1 => ?_) (fun t t1 => by rw [if_pos (by unfold I64; omega), if_neg (by omega)])) ?_
        · have hgd := hr t t0 t1
          unfold oct oc at hgd
          have b1 := Int.emod_nonneg t (show W ≠ 0 by omega)
          have b2 := Int.emod_lt_of_pos t (show 0 < W by omega)
          have b3 := Int.emod_nonneg z (show W ≠ 0 by omega)
          have b4 := Int.emod_lt_of_pos z (show 0 < W by omega)
          have b5 := Int.ediv_nonneg (a := t) (b := W) (by omega) (by omega)
          have b6 := Int.ediv_nonneg (a := z) (b := W) (by omega) (by omega)
          have b7 := Int.ediv_le_self (a := t) W (by omega)
          have b8 := Int.ediv_le_self (a := z) W (by omega)
          refine Ok.gd (by unfold I64; omega) ?_
          rw [if_pos t1]
          refine Ok.gd ⟨t0, by omega, by omega⟩ (Ok.gd ⟨z0, by omega, by omega⟩ ?_)
          refine Ok.gd (by unfold I64; omega) (Ok.gd ⟨t0, by omega, by omega⟩ (Ok.gd ⟨z0, by omega, by omega⟩ (Ok.gd (by unfold I64; omega) ?_)))
          refine Ok.gd (by omega) (Ok.gd (by omega) (Ok.gd (by omega) ?_))
          refine Ok.gd (by unfold I64; omega) (Ok.gd (by unfold I64; omega) (Ok.gd (by unfold I64; omega) (Ok.gd (by unfold I64; omega) ?_)))
          exact Ok.ite (fun h => absurd hgd h) (fun _ => Ok.gd (by unfold I64; omega) (Ok.ret rfl))
        · rintro (_ | _) hx
          · dsimp only [Ex.then]
            have := Int.ediv_nonneg (a := W * H) (b := 5) (by omega) (by omega)
            exact Ok.gd (by unfold I64; omega) (Ok.gd (by unfold I64; omega) (Ok.gd (by omega) (Ok.gd (by unfold I64; omega) (Ok.ret ⟨by omega, by omega⟩))))
          · exact hx.elim
    · rintro (_ | _) hx
      · dsimp only [Ex.then]
        exact Ok.gd (by unfold I64; omega) (Ok.ret ⟨rfl, trivial⟩)
      · exact hx.elim
  · rintro (_ | _) hx
    · dsimp only [Ex.then]
      rw [wakes13_p]
      exact Ok.ret rfl
    · exact hx.elim
end Go.Proofs.Ytdaopgoaghhbpaa
