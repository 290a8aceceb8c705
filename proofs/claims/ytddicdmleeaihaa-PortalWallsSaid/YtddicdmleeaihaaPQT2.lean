/-
  PortalWalls, as a pure function, is true. For arguments that are Go's.
-/
import Derived.Test.YtddicdmleeaihaaPQF
import Derived.Test.YtddicdmleeaihaaPQG2
set_option linter.unusedVariables false
set_option linter.unusedSimpArgs false
namespace Go.Proofs.Ytddicdmleeaihaa
open Go.Vg Sp
def wallAt (g : Int) (t : Int) : Bool := decide (¬ (t % 16 = 8) ∨ (g / 2 ^ (t / 16).toNat) % 2 = 1)
def wallsFree (g : Int) : List Bool := (List.range 128).map fun t : Nat => wallAt g (t : Int)
def wallsRuns (g : Int) : Nat → Int × Int
  | 0 => (0, 0)
  | n + 1 => if (g / 2 ^ n) % 2 = 1 then ((wallsRuns g n).1 + (if n = 0 ∨ (g / 2 ^ (n - 1)) % 2 = 0 then 1 else 0), (wallsRuns g n).2 + 1) else wallsRuns g n
def wallsOk (g : Int) (l : List Prt) : Bool := decide ((l.length : Int) = (wallsRuns g 8).1) && decide ((l.map (·.width)).sum = (wallsRuns g 8).2) && l.all fun p => decide (p.a % 16 = 7 ∧ 0 ≤ p.a ∧ p.a ≤ 1000 ∧ p.b = p.a + 1 ∧ 0 ≤ p.width ∧ p.width ≤ 8)
instance (l : List Prt) : Decidable (StrP l) := by unfold StrP; exact inferInstance
def wallsB (g : Int) : Bool := match portal_border (wallsFree g) 7 1 16 8 with
  | some l => decide (StrP l) && wallsOk g l
  | none => false
set_option maxRecDepth 100000 in
theorem walls_0 : (List.range 64).all (fun n : Nat => wallsB (n : Int)) = true := by decide +kernel
set_option maxRecDepth 100000 in
theorem walls_1 : (List.range 64).all (fun n : Nat => wallsB ((n + 64 : Nat) : Int)) = true := by decide +kernel
set_option maxRecDepth 100000 in
theorem walls_2 : (List.range 64).all (fun n : Nat => wallsB ((n + 128 : Nat) : Int)) = true := by decide +kernel
set_option maxRecDepth 100000 in
theorem walls_3 : (List.range 64).all (fun n : Nat => wallsB ((n + 192 : Nat) : Int)) = true := by decide +kernel
theorem walls_at {g : Int} (h : 0 ≤ g ∧ g < 256) : wallsB g = true := by
  obtain ⟨n, rfl⟩ : ∃ n : Nat, g = n := ⟨g.toNat, by omega⟩
  by_cases h1 : n < 64
  · exact List.all_eq_true.1 walls_0 n (List.mem_range.2 h1)
  by_cases h2 : n < 128
  · have := List.all_eq_true.1 walls_1 (n - 64) (List.mem_range.2 (by omega))
    rwa [show n - 64 + 64 = n by omega] at this
  by_cases h3 : n < 192
  · have := List.all_eq_true.1 walls_2 (n - 128) (List.mem_range.2 (by omega))
    rwa [show n - 128 + 128 = n by omega] at this
  · have := List.all_eq_true.1 walls_3 (n - 192) (List.mem_range.2 (by omega))
    rwa [show n - 192 + 192 = n by omega] at this
theorem walls_find {g : Int} (h : 0 ≤ g ∧ g < 256) : ∃ l, portal_Find 16 8 (wallsFree g) = some (l, 0) ∧ wallsOk g l = true := by
  have hB := walls_at h
  have hm : May 16 8 := by unfold May; omega
  have hf : ((wallsFree g).length : Int) = 16 * 8 := by simp [wallsFree]
  obtain ⟨l, hl, _, _, hmem⟩ := bord_p (d := false) (c := 7) (k := 0) hm hf ⟨by omega, by omega, by show (7 : Int) + 1 < 16; omega⟩ ⟨by omega, by omega, by show (0 : Int) < 8; omega⟩
  have e : portal_border (wallsFree g) (posD 16 false 7 0) (ovrD 16 false) (stpD 16 false) (min 8 (limD 16 8 false - 0)) = portal_border (wallsFree g) 7 1 16 8 := rfl
  rw [e] at hl
  unfold wallsB at hB
  rw [hl] at hB
  simp only [Bool.and_eq_true, decide_eq_true_eq] at hB
  obtain ⟨m, h1, _, h3, _⟩ := find_p hm hf
  have : m = l := h3.uniq ⟨hB.1, fun p => by
    rw [hmem p]
    constructor
    · rintro ⟨v, n, hr, _, e⟩; exact ⟨false, 7, v, n, hr, e⟩
    · rintro ⟨d, c, v, n, hr, e⟩
      have ho := hr.ok; have hv := hr.v0; have hn := hr.n1; have hl := hr.lim
      unfold OkB sidD at ho
      unfold limD at hl
      cases d with
      | true => rw [if_pos rfl] at ho; omega
      | false =>
        rw [if_neg (by simp)] at ho hl
        have : c = 7 := by omega
        subst this
        exact ⟨v, n, hr, by omega, e⟩⟩
  exact ⟨m, h1, this ▸ hB.2⟩
theorem wallsRuns_bd (g : Int) : ∀ n : Nat, (0 ≤ (wallsRuns g n).1 ∧ (wallsRuns g n).1 ≤ n) ∧ (0 ≤ (wallsRuns g n).2 ∧ (wallsRuns g n).2 ≤ n)
  | 0 => by simp [wallsRuns]
  | n + 1 => by
    have ih := wallsRuns_bd g n
    unfold wallsRuns
    split
    · split <;> simp only [Int.natCast_add, Int.natCast_one] <;> omega
    · simp only [Int.natCast_add, Int.natCast_one]; omega
theorem sum_take {l : List Prt} {i : Int} (h : 0 ≤ i ∧ i < l.length) : ((l.take (i + 1).toNat).map (·.width)).sum = ((l.take i.toNat).map (·.width)).sum + (gi l i).width := by
  rw [take_nextV h, List.map_append, List.sum_append]; simp
theorem sum_bd {l : List Prt} (h : ∀ p ∈ l, 0 ≤ p.width ∧ p.width ≤ 8) : 0 ≤ (l.map (·.width)).sum ∧ (l.map (·.width)).sum ≤ 8 * l.length := by
  induction l with
  | nil => simp
  | cons x l ih =>
    have h1 := h x (by simp)
    have h2 := ih fun p hp => h p (by simp [hp])
    simp only [List.map_cons, List.sum_cons, List.length_cons, Int.natCast_add, Int.natCast_one]; omega
theorem walls_law {p : Ask} (hp : p.Wf) (hT : p.Ts.length ≤ 9223372036854775807) : thronglaw11_PortalWalls p = some true := by
  unfold thronglaw11_PortalWalls
  refine Ok.eq (Ok.bind (R := fun x => match x with | .go _ => True | .up _ => False) (Ok.loop (fun g : Int => 0 ≤ g ∧ g ≤ 300) (fun g => (300 - g).toNat) (by omega) (by unfold FUEL; omega) ?_) ?_)
  · rintro g ⟨g0, g1⟩
    refine Ok.ite (fun hg => Ok.gd (by omega) ?_) (fun _ => Ok.ret trivial)
    refine Ok.bind (R := fun fr => fr = wallsFree g) (Ok.loop (fun z : Int × List Bool => (0 ≤ z.1 ∧ z.1 ≤ 128) ∧ z.2.length = 128 ∧ ∀ j : Int, 0 ≤ j → j < z.1 → gi z.2 j = wallAt g j) (fun z => (128 - z.1).toNat) ⟨⟨by show (0 : Int) ≤ 0; omega, by show (0 : Int) ≤ 128; omega⟩, by rw [List.length_replicate]; rfl, fun j a b => by dsimp only at b; omega⟩ (by unfold FUEL; dsimp only; omega) ?_) fun fr hfr => ?_
    · rintro ⟨t, l⟩ ⟨⟨t0, t1⟩, hl, ht⟩
      dsimp only at t0 t1 hl ht ⊢
      refine Ok.ite (fun hlt => Ok.gd (by omega) (Ok.gd (fun _ => by omega) (Ok.gd (fun _ => by omega) (Ok.gd ⟨t0, hlt⟩ (Ok.gd (by unfold I64; omega) (Ok.ret ⟨⟨⟨by show 0 ≤ t + 1; omega, by show t + 1 ≤ _; omega⟩, by show (si l t _).length = 128; rw [len_si]; exact hl, fun j a b => ?_⟩, by show (128 - (t + 1)).toNat < (128 - t).toNat; omega⟩)))))) (fun hge => Ok.ret ?_)
      · show gi (si l t _) j = _
        by_cases e : j = t
        · subst e; rw [gi_si_self ⟨a, by omega⟩]; rfl
        · rw [gi_si_ne t0 a (fun q => e q.symm)]; exact ht j a (by have : j < t + 1 := b; omega)
      · refine ext_gi (by rw [hl]; simp [wallsFree]) fun j a b => ?_
        rw [ht j a (by omega)]
        obtain ⟨n, rfl⟩ : ∃ n : Nat, j = n := ⟨j.toNat, by omega⟩
        rw [gi_nat]
        simp [wallsFree, List.getD, List.getElem?_range (show n < 128 by omega)]
    subst hfr
    refine Ok.bind (R := fun z => z = wallsRuns g 8) (Ok.loop (fun z : Int × Int × Int => (0 ≤ z.2.2 ∧ z.2.2 ≤ 8) ∧ (z.1, z.2.1) = wallsRuns g z.2.2.toNat) (fun z => (8 - z.2.2).toNat) ⟨⟨by show (0 : Int) ≤ 0; omega, by show (0 : Int) ≤ 8; omega⟩, rfl⟩ (by unfold FUEL; dsimp only; omega) ?_) fun rw_ hrw => ?_
    · rintro ⟨r, w, y⟩ ⟨⟨y0, y1⟩, hy⟩
      dsimp only at y0 y1 hy ⊢
      have hb := wallsRuns_bd g y.toNat
      have e1 : r = (wallsRuns g y.toNat).1 := by rw [← hy]
      have e2 : w = (wallsRuns g y.toNat).2 := by rw [← hy]
      have hstep : wallsRuns g (y + 1).toNat = if (g / 2 ^ y.toNat) % 2 = 1 then (r + (if y.toNat = 0 ∨ (g / 2 ^ (y.toNat - 1)) % 2 = 0 then 1 else 0), w + 1) else (r, w) := by
        rw [show (y + 1).toNat = y.toNat + 1 by omega, e1, e2]; rfl
      refine Ok.ite (fun hlt => Ok.gd (by omega) (Ok.ite (fun hb1 => Ok.gd (by unfold I64; omega) (Ok.gd (fun _ => by unfold I64; omega) (Ok.gd (fun _ => by omega) (Ok.ite (fun hc => Ok.gd (by unfold I64; omega) (Ok.gd (by unfold I64; omega) (Ok.ret ⟨⟨⟨by show 0 ≤ y + 1; omega, by show y + 1 ≤ _; omega⟩, ?_⟩, by show (8 - (y + 1)).toNat < (8 - y).toNat; omega⟩))) (fun hc => Ok.gd (by unfold I64; omega) (Ok.ret ⟨⟨⟨by show 0 ≤ y + 1; omega, by show y + 1 ≤ _; omega⟩, ?_⟩, by show (8 - (y + 1)).toNat < (8 - y).toNat; omega⟩)))))) (fun hb1 => Ok.gd (by unfold I64; omega) (Ok.ret ⟨⟨⟨by show 0 ≤ y + 1; omega, by show y + 1 ≤ _; omega⟩, ?_⟩, by show (8 - (y + 1)).toNat < (8 - y).toNat; omega⟩)))) (fun hge => Ok.ret ?_)
      · show (r + 1, w + 1) = wallsRuns g (y + 1).toNat
        rw [hstep, if_pos hb1, if_pos (by
          rcases hc with h | h
          · exact .inl (by omega)
          · exact .inr (by rw [show y.toNat - 1 = (y - 1).toNat by omega]; exact h))]
      · show (r, w + 1) = wallsRuns g (y + 1).toNat
        rw [hstep, if_pos hb1, if_neg (by
          rintro (h | h)
          · exact hc (.inl (by omega))
          · exact hc (.inr (by rw [show y.toNat - 1 = (y - 1).toNat by omega] at h; exact h))), Int.add_zero]
      · show (r, w) = wallsRuns g (y + 1).toNat
        rw [hstep, if_neg hb1]
      · rw [show (8 : Nat) = y.toNat by omega]; exact hy
    obtain ⟨r, w⟩ := rw_
    dsimp only
    obtain ⟨l, hF, hB⟩ := walls_find ⟨g0, hg⟩
    rw [hF, bsome, num11_p, bsome]
    dsimp only at hB ⊢
    simp only [wallsOk, Bool.and_eq_true, decide_eq_true_eq, List.all_eq_true] at hB
    obtain ⟨⟨hlen, hsum⟩, hall⟩ := hB
    have hb := wallsRuns_bd g 8
    have er : r = (wallsRuns g 8).1 := by rw [← hrw]
    have ew : w = (wallsRuns g 8).2 := by rw [← hrw]
    rw [if_neg (by rintro (e | e); exact e rfl; exact e (by omega))]
    refine Ok.bind (R := fun x => match x with | .go v => v = 0 | .up _ => False) (Ok.loop (fun z : Int × Int => (0 ≤ z.2 ∧ z.2 ≤ l.length) ∧ z.1 = w - ((l.take z.2.toNat).map (·.width)).sum) (fun z => (l.length - z.2).toNat) ⟨⟨by show (0 : Int) ≤ 0; omega, by show (0 : Int) ≤ _; omega⟩, by simp⟩ (by unfold FUEL; dsimp only; omega) ?_) ?_
    · rintro ⟨x, i⟩ ⟨⟨i0, i1⟩, hx⟩
      dsimp only at i0 i1 hx ⊢
      have hsb := sum_bd (l := l.take i.toNat) fun p hp => (hall p (List.mem_of_mem_take hp)).2.2.2.2
      have htl : (l.take i.toNat).length ≤ l.length := by rw [List.length_take]; omega
      refine Ok.ite (fun hlt => ?_) (fun hge => Ok.ret ?_)
      · have hg1 := hall _ (gi_mem (xs := l) ⟨i0, hlt⟩)
        refine Ok.gd ⟨i0, hlt⟩ (Ok.gd (by unfold I64; omega) (Ok.gd ⟨i0, hlt⟩ (Ok.gd (by omega) (Ok.gd (fun _ => ⟨i0, hlt⟩) (Ok.gd (fun _ => ⟨i0, hlt⟩) (Ok.gd (fun _ => ⟨i0, hlt⟩) (Ok.gd (fun _ => by unfold I64; omega) (Ok.gd (fun _ => ⟨i0, hlt⟩) ?_))))))))
        rw [if_neg ?_]
        · refine Ok.gd (by unfold I64; omega) (Ok.ret ⟨⟨⟨by show 0 ≤ i + 1; omega, by show i + 1 ≤ _; omega⟩, ?_⟩, by show ((l.length : Int) - (i + 1)).toNat < (l.length - i).toNat; omega⟩)
          show x - (gi l i).width = w - ((l.take (i + 1).toNat).map (·.width)).sum
          rw [sum_take ⟨i0, hlt⟩]; omega
        · rintro (e | e)
          · exact e hg1.1
          · refine e ?_
            rw [← hg1.2.2.2.1]
      · show x = 0
        rw [show i.toNat = l.length by omega, List.take_length] at hx
        omega
    · rintro (v | v) hv
      · dsimp only [Ex.then] at hv ⊢
        subst hv
        rw [if_neg (by simp)]
        have h5 : 0 ≤ (p.Ts.length : Int) % 5 ∧ (p.Ts.length : Int) % 5 < 5 := by omega
        exact Ok.gd (by unfold I64; omega) (Ok.gd (by omega) (Ok.gd (by unfold I64; omega) (Ok.ret ⟨⟨by omega, by omega⟩, by omega⟩)))
      · exact hv.elim
  · rintro (v | v) hv
    · dsimp only [Ex.then]
      rw [wakes_p, bsome]; exact Ok.ret rfl
    · exact hv.elim
end Go.Proofs.Ytddicdmleeaihaa
