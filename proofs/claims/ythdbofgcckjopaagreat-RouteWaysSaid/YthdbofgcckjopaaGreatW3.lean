/-
  Texts of one's own, joined: VP VT VU VW VS VX V9 V5 VY VZ V1 V3 V4 V7 V8 WC WB WD V6.
-/
import Derived.Test.YthdbofgcckjopaaGreatW2
import Derived.Shelf.SlSortCmp.NoneTotal
import Derived.Laws.LoneSync
import Derived.MapKept
set_option linter.unusedVariables false
namespace Go.Vg
theorem bsome {α β : Type} {a : α} {k : α → Option β} : Option.bind (some a) k = k a := rfl
theorem Ok.some {α : Type} {m : Option α} {a : α} (h : m = some a) : Ok m (fun x => x = a) := ⟨a, h, rfl⟩
section
variable {α : Type} [Inhabited α]
theorem take_nextV {s : List α} {i : Int} (h : 0 ≤ i ∧ i < s.length) : s.take (i + 1).toNat = s.take i.toNat ++ [gi s i] := by
  have hl : i.toNat < s.length := by omega
  rw [show (i + 1).toNat = i.toNat + 1 by omega, List.take_succ_eq_append_getElem hl]
  simp [gi, List.getD, List.getElem?_eq_getElem hl]
/-- New memory. -/
def copyF (l : List α) : Option (List α) :=
  Option.bind (α := List α) (loop (σ := List α × Int) (β := List α) (fun (l4, v6) =>
  if v6 < (l.length : Int) then
  if 0 ≤ v6 ∧ v6 < (l.length : Int) then
  if l4.length < 1099511627776 then
  if I64 (v6 + 1) then
  some (St.next ((l4 ++ [(gi l v6)]), (v6 + 1)))
  else none
  else none
  else none
  else
  some (St.done l4)) ([], 0)) fun v2 =>
  some v2
theorem copyF_eq {l : List α} (h : l.length < 1099511627776) : copyF l = some l := by
  unfold copyF
  refine Ok.eq (Ok.bind (R := fun x => x = l) (Ok.loop (fun z : List α × Int => 0 ≤ z.2 ∧ z.2 ≤ l.length ∧ z.1 = l.take z.2.toNat) (fun z => (l.length - z.2).toNat) ⟨by simp, by simp, by simp⟩ (by unfold FUEL; simp; omega) ?_) (fun x hx => Ok.ret hx))
  rintro ⟨m, i⟩ ⟨h0, h1, hq⟩
  try dsimp only at h0 h1 hq ⊢
  subst hq
  refine Ok.ite (fun hlt => ?_) (fun hlt => Ok.ret ?_)
  · refine Ok.gd ⟨h0, hlt⟩ (Ok.gd (by rw [List.length_take]; omega) (Ok.gd (by unfold I64; omega) (Ok.ret ⟨⟨by show 0 ≤ i + 1; omega, by show i + 1 ≤ _; omega, ?_⟩, by show ((l.length : Int) - (i + 1)).toNat < (l.length - i).toNat; omega⟩)))
    exact (take_nextV ⟨h0, hlt⟩).symm
  · show l.take i.toNat = l
    rw [show i.toNat = l.length by omega, List.take_length]
end
section
variable {α : Type}
end
end Go.Vg
set_option linter.unusedSimpArgs false
set_option linter.unusedVariables false
namespace Go.Vg
open Enc (R)
/-- An array of two numbers. -/
structure Pr2 where
  a : Int
  b : Int
  deriving Inhabited, DecidableEq
instance : Enc Pr2 where
  sz := 2
  R h x cs := cs = [.int .i64 x.a, .int .i64 x.b]
  len := fun e => by rw [e]; rfl
  one := fun e u hu => by
    rw [e] at hu; simp only [List.mem_cons, List.not_mem_nil, or_false] at hu
    rcases hu with rfl | rfl
    · rfl
    · rfl
  mono := fun hl e => e
section
variable {P : Program} {n : Nat} {fr : Fr} {dst : Option Tmp} {ty : TypeId} {pos : String} {aft : Array Edge} {g : Option (Nat × Bool)} {w0 : World} {G : List Ch}
theorem Pu.indexN {t e : TypeId} {x i : Operand} {len : Nat} {k : IntKind} {j : Int} {xs : List Int} (ht : arTy P t = some (len, e, 1)) (he : tySz P e = some (1, false)) (hx : ev fr x = some (.agg (nums xs).toArray)) (hi : ev fr i = some (.int k j)) (h : 0 ≤ j ∧ j < len ∧ xs.length = len) :
    Pu P n ⟨dst, .index t x i, ty, pos, aft, g⟩ fr (.int .i64 (gi xs j)) := fun a kn w => by
  obtain ⟨h1, inf, h2, hsz⟩ := arTy_spec ht
  have hg := nums_get (L := xs) (j := j) ⟨h.1, by omega⟩
  have hr : (Instr.index t (.agg (nums xs).toArray) (.int k j)).run P w = .ok (.int .i64 (gi xs j)) w := by
    simp [Instr.index, asIntOf, run_underlying h1, run_sizeOf_info h2, h.1, h.2.1, part, run_isAgg_of he, hsz, hg]
  simp only [execOp, kn.ev hx, kn.ev hi, Sem.run_bind, hr, Result.andThen_ok, Sem.run_pure]
theorem Pu.indexN2 {t e : TypeId} {x i : Operand} {len : Nat} {k : IntKind} {j : Int} {xs : List Int} (ht : arTy P t = some (len, e, 2)) (he : tySz P e = some (2, true)) (hx : ev fr x = some (.agg (nums xs).toArray)) (hi : ev fr i = some (.int k j)) (h : 0 ≤ j ∧ j < len ∧ xs.length = len * 2) :
    Pu P n ⟨dst, .index t x i, ty, pos, aft, g⟩ fr (.agg #[.int .i64 (gi xs (2 * j)), .int .i64 (gi xs (2 * j + 1))]) := by
  refine Pu.indexV ht he hx hi ⟨h.1, h.2.1⟩ ?_
  have h1 := nums_get (L := xs) (j := 2 * j) ⟨by omega, by omega⟩
  have h2 := nums_get (L := xs) (j := 2 * j + 1) ⟨by omega, by omega⟩
  rw [show (2 * j).toNat = j.toNat * 2 by omega] at h1
  rw [show (2 * j + 1).toNat = j.toNat * 2 + 1 by omega] at h2
  have hl : (nums xs).length = xs.length := by simp [nums]
  apply Array.toList_inj.1
  rw [Array.toList_extract]
  show List.extract (nums xs) _ _ = _
  rw [List.extract_eq_take_drop, Nat.add_sub_cancel_left]
  apply List.ext_getElem?
  intro q
  match q with
  | 0 => simp [List.getElem?_take, List.getElem?_drop, h1]
  | 1 => simp [List.getElem?_take, List.getElem?_drop, h2]
  | q + 2 => simp [List.getElem?_take]; omega
end
end Go.Vg
set_option linter.unusedSimpArgs false
set_option linter.unusedVariables false
namespace Go.Vg
end Go.Vg
set_option linter.unusedSimpArgs false
set_option linter.unusedVariables false
namespace Go.Vg
open Enc (R)
open Go.RowKit (Below)
section
variable {w0 w : World} {G : List Ch}
end
section
variable {P : Program} {n : Nat} {fr : Fr} {dst : Option Tmp} {ty : TypeId} {pos : String} {aft : Array Edge} {g : Option (Nat × Bool)} {S : As} {w0 : World} {G : List Ch} {Q : Po}
end
end Go.Vg
set_option linter.unusedVariables false
namespace Go.Vg
/-- A truth value is there, and tells p. -/
def Bo (m : Option Bool) (p : Prop) : Prop := Ok m fun r => (r = true ↔ p)
theorem Bo.dec {q p : Prop} [Decidable q] (h : q ↔ p) : Bo (some (decide q)) p := Ok.ret (by rw [decide_eq_true_iff]; exact h)
theorem Bo.t {m : Option Bool} {p : Prop} (h : Bo m p) (hp : p) : m = some true := let ⟨r, e, q⟩ := h; by rw [e, q.2 hp]
theorem Bo.f {m : Option Bool} {p : Prop} (h : Bo m p) (hp : ¬ p) : m = some false := by
  obtain ⟨r, e, q⟩ := h
  rw [e]
  cases r with
  | false => rfl
  | true => exact absurd (q.1 rfl) hp
theorem Bo.iff {m : Option Bool} {p q : Prop} (h : Bo m p) (k : p ↔ q) : Bo m q := Ok.mono h fun r e => e.trans k
/-- Over the places from a to n: all are so, or it ends early. -/
theorem scanOk {β : Type} {f : Int → Option (St Int (Ex Unit β))} {a n : Int} (G : Int → Prop) (U : β → Prop) (hn : n - a < 9223372036854775808)
    (step : ∀ v, a ≤ v → v < n → (∀ u, a ≤ u → u < v → G u) → Ok (f v) fun y => match y with | .next s => s = v + 1 ∧ G v | .done (.up r) => U r | .done (.go _) => False)
    (fin : ∀ v, a ≤ v → n ≤ v → f v = some (St.done (Ex.go ()))) : Ok (loop f a) fun x => match x with | .go _ => ∀ u, a ≤ u → u < n → G u | .up r => U r := by
  refine Ok.loop (fun v => a ≤ v ∧ ∀ u, a ≤ u → u < v → u < n → G u) (fun v => (n - v).toNat) ⟨Int.le_refl _, fun u h1 h2 => by omega⟩ (by unfold FUEL; omega) ?_
  rintro v ⟨h1, h2⟩
  by_cases hv : v < n
  · obtain ⟨y, hy, hq⟩ := step v h1 hv (fun u u0 u1 => h2 u u0 u1 (by omega))
    refine ⟨y, hy, ?_⟩
    cases y with
    | next s =>
      obtain ⟨rfl, hg⟩ := hq
      refine ⟨⟨by omega, fun u u0 u1 u2 => ?_⟩, by omega⟩
      by_cases e : u = v
      · subst e; exact hg
      · exact h2 u u0 (by omega) u2
    | done x =>
      cases x with
      | go _ => exact hq.elim
      | up r => exact hq
  · rw [fin v h1 (by omega)]
    exact Ok.ret (fun u u0 u1 => h2 u u0 (by omega) u1)
/-- The same, where a truth value is handed back: false at the first that is not so. -/
theorem scanBo {f : Int → Option (St Int (Ex Unit Bool))} {a n : Int} (G : Int → Prop) (hn : n - a < 9223372036854775808)
    (step : ∀ v, a ≤ v → v < n → (∀ u, a ≤ u → u < v → G u) → Ok (f v) fun y => match y with | .next s => s = v + 1 ∧ G v | .done (.up r) => r = false ∧ ¬ G v | .done (.go _) => False)
    (fin : ∀ v, a ≤ v → n ≤ v → f v = some (St.done (Ex.go ()))) : Bo (Option.bind (loop f a) fun x => x.then fun _ => some true) (∀ u, a ≤ u → u < n → G u) := by
  refine Ok.bind (scanOk G (fun r => r = false ∧ ¬ ∀ u, a ≤ u → u < n → G u) hn (fun v h1 h2 h3 => ?_) fin) (fun x hx => ?_)
  · obtain ⟨y, hy, hq⟩ := step v h1 h2 h3
    refine ⟨y, hy, ?_⟩
    cases y with
    | next s => exact hq
    | done x =>
      cases x with
      | go _ => exact hq
      | up r => exact ⟨hq.1, fun h => hq.2 (h v h1 h2)⟩
  · cases x with
    | go _ => exact Ok.ret ⟨fun _ => hx, fun _ => rfl⟩
    | up r => exact Ok.ret ⟨fun e => (by rw [hx.1] at e; cases e), fun h => absurd h hx.2⟩
theorem gi_mem2 {α : Type} [Inhabited α] {l : List α} {x : α} : x ∈ l ↔ ∃ i : Int, 0 ≤ i ∧ i < l.length ∧ gi l i = x := by
  constructor
  · intro h
    obtain ⟨i, hi, he⟩ := List.mem_iff_getElem.1 h
    exact ⟨i, by omega, by omega, by simp [gi, List.getD, hi, he]⟩
  · rintro ⟨i, h0, h1, rfl⟩
    exact gi_mem ⟨h0, h1⟩
/-- A place in a table of rows of W. -/
theorem xy_inj {W x y : Int} (hx : 0 ≤ x ∧ x < W) : (x + W * y) / W = y ∧ (x + W * y) % W = x := by
  constructor
  · rw [Int.add_mul_ediv_left _ _ (by omega), Int.ediv_eq_zero_of_lt hx.1 hx.2]; omega
  · rw [Int.add_mul_emod_self_left, Int.emod_eq_of_lt hx.1 hx.2]
end Go.Vg
set_option linter.unusedSimpArgs false
set_option linter.unusedVariables false
namespace Go.Vg
open Go.RowKit (Below)
open Enc (R)

/-- Elements that own memory. -/
class Deep (α : Type) [Enc α] where
  D : Hp → α → List Value → Prop
  toR : ∀ {h x c}, D h x c → R h x c
  mono : ∀ {h h' x c}, h.le h' → D h x c → D h' x c

section
variable {α : Type} [Enc α] [Deep α]
def DRF : Hp → List α → List Value → Prop
  | _, [], cs => cs = []
  | h, x :: xs, cs => ∃ c r p q, cs = c ++ r ∧ Deep.D p x c ∧ DRF q xs r ∧ (∀ b, p b = none ∨ q b = none) ∧ Hp.le p h ∧ Hp.le q h
theorem DRF.mono {h h' : Hp} (hl : h.le h') : ∀ {xs : List α} {cs : List Value}, DRF h xs cs → DRF h' xs cs
  | [], _, e => e
  | _ :: _, _, ⟨c, r, p, q, e, a, b, d, l1, l2⟩ => ⟨c, r, p, q, e, a, b, d, Hp.le_trans l1 hl, Hp.le_trans l2 hl⟩
theorem DRF.toRF {h : Hp} : ∀ {xs : List α} {cs : List Value}, DRF h xs cs → RF h xs cs
  | [], _, e => e
  | _ :: _, _, ⟨c, r, p, q, e, a, b, d, l1, l2⟩ => ⟨c, r, e, Enc.mono l1 (Deep.toR a), (DRF.toRF b).mono l2⟩
end
/-- Elements that are read beside what the row owns. -/
def FB {α : Type} [Enc α] (B : Hp) : Hp → List α → List Value → Prop := fun h xs cs => RF (h.over B) xs cs
/-- Elements that are read in memory that the row's own part holds. -/
def FH {α : Type} [Enc α] (H : Hp) : Hp → List α → List Value → Prop := fun h xs cs => H.le h ∧ RF h xs cs

class PhM {α : Type} [Enc α] (w0 : World) (Φ : Hp → List α → List Value → Prop) : Prop where
  mono : ∀ {h h' : Hp} {xs : List α} {cs : List Value}, h.le h' → (∀ b o, h' b = some o → w0.heap.size ≤ b) → Φ h xs cs → Φ h' xs cs
class Ph {α : Type} [Enc α] (w0 : World) (Φ : Hp → List α → List Value → Prop) : Prop extends PhM w0 Φ where
  rd : ∀ {w : World} {h : Hp} {xs : List α} {cs : List Value}, Ext w0 w → h.le (hpOf w) → Φ h xs cs → RF (hpOf w) xs cs
instance {α : Type} [Enc α] [Deep α] {w0 : World} : Ph w0 (DRF (α := α)) := { mono := fun hl _ d => d.mono hl, rd := fun _ hl d => d.toRF.mono hl }
instance {α : Type} [Enc α] {w0 : World} : Ph w0 (FB (α := α) (hpOf w0)) :=
  { mono := fun hl hb d => RF.mono (Hp.over_mono' hl fun b o e => by
      have h2 := lt_of_hp e
      rename_i h h' xs cs
      cases hk : h' b with
      | none => rfl
      | some o' => have h1 := hb b o' hk; omega) d, rd := fun he hl d => RF.mono (Hp.over_le hl he.hp) d }
instance {α : Type} [Enc α] {w0 : World} {H : Hp} : Ph w0 (FH (α := α) H) := { mono := fun hl _ d => ⟨Hp.le_trans d.1 hl, d.2.mono hl⟩, rd := fun _ hl d => d.2.mono hl }

theorem RFrow {α : Type} [Enc α] {h : Hp} {g cap : Nat} {cs sp : List Value} {e : TypeId} {xs : List α} (h2 : h g = some (.cells (cs ++ sp).toArray e (0, 0))) (h3 : xs.length ≤ cap) (h4 : cap ≤ maxLen) (h6 : RF h xs cs) : R h xs [.slice (some ⟨g, 0, none⟩) xs.length cap] :=
  ⟨_, cap, rfl, h3, h4, .inr ⟨g, 0, cs, rfl, h6, ⟨_, e, _, h2, fun j v hj => by
    rw [Nat.zero_add, List.getElem?_toArray, List.getElem?_append_left (List.getElem?_eq_some_iff.1 hj).1]
    exact hj⟩⟩⟩
theorem row_R {α : Type} [Enc α] {e : TypeId} {v : Value} {xs : List α} {h : Hp} : row nilH e v xs h → R h xs [v]
  | .inl ⟨h1, h2⟩ => by subst h1; subst h2; exact ⟨none, 0, rfl, by simp, by simp, .inl rfl⟩
  | .inr ⟨g, cap, cs, sp, h1, h2, h3, h4, h5, h6⟩ => by subst h1; exact RFrow h2 h3 h4 (h6.mono (Hp.over_le (Hp.off_le _ _) (nilH_le _)))
section
variable {w0 w : World} {G : List Ch} {α : Type} [Enc α] {Φ : Hp → List α → List Value → Prop}
/-! ### What stands still -/
def fz (h : Hp) : Ch := fun p => p = h
def Held (S : As) (H : Hp) : Prop := ∀ w, S w → H.le (hpOf w)
theorem Held.fz {h : Hp} (k : Nat) (hk : G[k]? = some (fz h)) : Held (Sat w0 G) h := fun w s => by
  obtain ⟨p, hp, hl, _⟩ := s.get k hk
  rw [← show p = h from hp]; exact hl
theorem Held.over {S : As} {A B : Hp} (a : Held S A) (b : Held S B) : Held S (A.over B) := fun w s => Hp.over_le (a w s) (b w s)
theorem Sat.freeze (k : Nat) {C : Ch} (hk : G[k]? = some C) (s : Sat w0 G w) : ∃ h, C h ∧ Sat w0 (G.set k (fz h)) w := by
  obtain ⟨h1, own, h2⟩ := s
  have hli : k < G.length := (List.getElem?_eq_some_iff.1 hk).1
  obtain ⟨p, hp, hb⟩ := h2 k C hk
  refine ⟨p, hp, h1, own, fun j D hj => ?_⟩
  by_cases hjk : k = j
  · subst hjk
    rw [List.getElem?_set_self hli] at hj
    exact ⟨p, by have := Option.some.inj hj; subst this; rfl, hb⟩
  · rw [List.getElem?_set_ne hjk] at hj
    exact h2 j D hj
theorem Rd.held {S : As} {H : Hp} (hh : Held S H) {β : Type} [Enc β] {x : β} {cs : List Value} (hr : R H x cs) : Rd S x cs := fun w s => Enc.mono (hh w s) hr
theorem Rd.ofFz {h : Hp} (k : Nat) (hk : G[k]? = some (fz h)) {β : Type} [Enc β] {x : β} {cs : List Value} (hr : R h x cs) : Rd (Sat w0 G) x cs := Rd.held (Held.fz k hk) hr
end
section
variable {P : Program} {n : Nat} {fr : Fr} {S : As} {Q : Po}
theorem T.exP {c : Code} {ι : Type} {p : ι → Prop} {S' : ι → As} (hp : ∀ w, S w → ∃ i, p i ∧ S' i w) (h : ∀ i, p i → T P n c fr (S' i) Q) : T P n c fr S Q := fun a w k s => let ⟨i, h1, s'⟩ := hp w s; h i h1 a w k s'
theorem Cont.exP {K : Act → World → Prop} {ι : Type} {p : ι → Prop} {S' : ι → As} (hp : ∀ w, S w → ∃ i, p i ∧ S' i w) (h : ∀ i, p i → Cont n K fr (S' i)) : Cont n K fr S := fun a w k s => let ⟨i, h1, s'⟩ := hp w s; h i h1 a w k s'
end

/-! ### Two chunks for one -/
theorem Sat.merge2 {w0 w : World} {G : List Ch} {A B : Ch} (k j : Nat) (hk : G[k]? = some A) (hj : G[j]? = some B) (hne : k ≠ j) (C : Ch) (hc : ∀ p q r : Hp, A p → B q → (∀ b, p b = none ∨ q b = none) → p.le r → q.le r → C r) (s : Sat w0 G w) :
    Sat w0 ((G.set k C).set j dead) w := by
  obtain ⟨h1, own, h2⟩ := s
  obtain ⟨p, hp, hb⟩ := h2 k A hk
  obtain ⟨q, hq, hbq⟩ := h2 j B hj
  have hkl := (List.getElem?_eq_some_iff.1 hk).1
  have hjl := (List.getElem?_eq_some_iff.1 hj).1
  refine ⟨h1, fun b => if own b = j then k else own b, fun i E hi => ?_⟩
  have hd : ∀ b, p b = none ∨ q b = none := fun b => by
    cases e : p b with
    | none => exact .inl rfl
    | some o =>
      cases e' : q b with
      | none => exact .inr rfl
      | some o' => have h3 := (hb b o e).2.1; have h4 := (hbq b o' e').2.1; omega
  by_cases hij : j = i
  · subst hij
    rw [List.getElem?_set_self (by simpa using hjl)] at hi
    exact ⟨fun _ => none, by rw [← Option.some.inj hi]; trivial, fun b o e => by cases e⟩
  · rw [List.getElem?_set_ne hij] at hi
    by_cases hik : k = i
    · subst hik
      rw [List.getElem?_set_self hkl] at hi
      have := (Option.some.inj hi).symm; subst this
      refine ⟨p.over q, hc p q _ hp hq hd (Hp.le_over p q) (fun b o e => ?_), fun b o e => ?_⟩
      · unfold Hp.over
        rcases hd b with h | h
        · rw [h]; exact e
        · rw [h] at e; cases e
      · unfold Hp.over at e
        split at e
        · rename_i o' e'; cases e
          obtain ⟨a1, a2, a3⟩ := hb b _ e'
          exact ⟨a1, by simp [a2, hne], a3⟩
        · obtain ⟨a1, a2, a3⟩ := hbq b _ e
          exact ⟨a1, by simp [a2], a3⟩
    · rw [List.getElem?_set_ne hik] at hi
      obtain ⟨u, hu, hbu⟩ := h2 i E hi
      refine ⟨u, hu, fun b o e => ?_⟩
      obtain ⟨a1, a2, a3⟩ := hbu b o e
      exact ⟨a1, by show (if own b = j then k else own b) = i; rw [a2, if_neg (fun h => hij h.symm)], a3⟩
/-! ### append -/
section
variable {P : Program} {n : Nat} {fr : Fr} {dst : Option Tmp} {ty : TypeId} {pos : String} {aft : Array Edge} {g : Option (Nat × Bool)} {S : As} {w0 : World} {G : List Ch}
end
/-! ### Elements that hold slices -/
section
variable {P : Program} {n : Nat} {fr : Fr} {o : Oper}
end
section
variable {P : Program} {n : Nat} {fr : Fr} {dst : Option Tmp} {ty : TypeId} {pos : String} {aft : Array Edge} {g : Option (Nat × Bool)} {S : As} {w0 : World} {G : List Ch}
end
section
variable {P : Program} {n : Nat} {fr : Fr} {w0 : World} {G : List Ch}
/-- Two results, the first one a struct in a block of its own. -/
theorem Cont.retCT {fn : Func} {R : Ending → World → Prop} {t t' ty sz b : Nat} {e : TypeId} {cs : List Value} {v' : Value} (k : Nat) (hr : fn.results = #[.cell t ty, .tmp t']) (ht : tySz P ty = some (sz, true)) (hv : look fr t = some (.pointer (some ⟨b, 0, none⟩)))
    (hk : G[k]? = some (blk b cs e)) (hl : cs.length = sz) (hv' : look fr t' = some v') (h : ∀ w, Sat w0 G w → R (.returned (.tuple #[.agg cs.toArray, v'])) w) : Cont n (bodyPost P fn R .ret) fr (Sat w0 G) := fun a w kn s => by
  have hld := run_loadVarA (P := P) (w := w) (b := b) (o := 0) ht hl (fun j v hj => by
    have := (s.getBlk hk).1
    simp [World.cell?, this, hj])
  have hp := kn.getD hv
  have hq := kn.getD hv'
  refine bodyPost_ret (v := .tuple #[.agg cs.toArray, v']) ?_ kn.defers (h w s)
  have hp' : a.tmps[t]?.getD undef = .pointer (some ⟨b, 0, none⟩) := by simpa [Array.getD_eq_getD_getElem?] using hp
  have hq' : a.tmps[t']?.getD undef = v' := by simpa [Array.getD_eq_getD_getElem?] using hq
  simp [results, hr, hp', hq', asAddr, hld]
end
/-! ### Function values over what holds slices -/
section
variable {P : Program} {n : Nat} {fr : Fr} {dst : Option Tmp} {ty : TypeId} {pos : String} {aft : Array Edge} {g : Option (Nat × Bool)} {S : As} {w0 : World} {G : List Ch}
end
end Go.Vg
set_option linter.unusedVariables false
set_option linter.unusedSectionVars false
namespace Go.Vg
open Go
theorem sj {α : Type} {a b : α} (h : some a = some b) : a = b := Option.some.inj h
section
variable {P : Program} {n : Nat} {ops : Array Oper} {Q : Po} {o : Oper} {rest : List Oper} {fr : Fr} {S : As}
theorem rp {v : Value} (h : Pu P n o fr v) (hr : RS P n ops Q rest (putF o.dst v fr) S) (hg : gval ops fr o.guard = some true := by rfl) (hd : dOk n o.dst = true := by rfl) : RS P n ops Q (o :: rest) fr S := RS.p h hg hd hr
theorem rq {v : Value} {w0 : World} {G : List Ch} (h : Qt P n o fr (Sat w0 G) v) (hr : RS P n ops Q rest (putF o.dst v fr) (Sat w0 G)) (hg : gval ops fr o.guard = some true := by rfl) (hd : dOk n o.dst = true := by rfl) : RS P n ops Q (o :: rest) fr (Sat w0 G) := RS.q h hg hd hr
theorem ro (hr : RS P n ops Q rest (putF o.dst undef fr) S) (hg : gval ops fr o.guard = some false := by rfl) (hd : dOk n o.dst = true := by rfl) : RS P n ops Q (o :: rest) fr S := RS.no hg hd hr
variable {dst : Option Tmp} {ty : TypeId} {pos : String} {aft : Array Edge} {g : Option (Nat × Bool)}
theorem rM {x : Operand} {v : Value} (h : ev fr x = some v) (hr : RS P n ops Q rest (putF dst v fr) S) (hg : gval ops fr g = some true := by rfl) (hd : dOk n dst = true := by rfl) : RS P n ops Q (⟨dst, .move x, ty, pos, aft, g⟩ :: rest) fr S := RS.p (Pu.move h) hg hd hr
theorem rA {x : Operand} {v : Value} (h : ev fr x = some v) (hr : RS P n ops Q rest (putF dst v fr) S) (hg : gval ops fr g = some true := by rfl) (hd : dOk n dst = true := by rfl) : RS P n ops Q (⟨dst, .assign x, ty, pos, aft, g⟩ :: rest) fr S := RS.p (Pu.assign h) hg hd hr
end
section
variable {P : Program} {n : Nat} {ops : Array Oper} {Q : Po} {full : List (Nat × Kd)} {plan : List (Nat × Kd)} {fr : Fr}
theorem dp {i : Nat} {o : Oper} {v : Value} {w0 : World} {G : List Ch} (hi : ops[i]? = some o) (h : Pu P n o fr v) (hr : RD P n ops Q full (fun _ => True) plan (putF o.dst v fr) (Sat w0 G)) (hg : gval ops fr o.guard = some true := by rfl) (hd : dOk n o.dst = true := by rfl) : RD P n ops Q full (fun _ => True) ((i, .pu) :: plan) fr (Sat w0 G) := RD.p (fun _ _ => trivial) hi h hg hd hr
theorem dq {i : Nat} {o : Oper} {v : Value} {w0 : World} {G : List Ch} (hi : ops[i]? = some o) (h : Qt P n o fr (Sat w0 G) v) (hr : RD P n ops Q full (fun _ => True) plan (putF o.dst v fr) (Sat w0 G)) (hg : gval ops fr o.guard = some true := by rfl) (hd : dOk n o.dst = true := by rfl) : RD P n ops Q full (fun _ => True) ((i, .rd) :: plan) fr (Sat w0 G) := RD.q (fun _ _ => trivial) hi h hg hd hr
theorem dn {i : Nat} {o : Oper} {w0 : World} {G : List Ch} {k : Kd} (hi : ops[i]? = some o) (hr : RD P n ops Q full (fun _ => True) plan (putF o.dst undef fr) (Sat w0 G)) (hk : k = .pu ∨ k = .wk ∨ k = .rd := by decide) (hg : gval ops fr o.guard = some false := by rfl) (hd : dOk n o.dst = true := by rfl) : RD P n ops Q full (fun _ => True) ((i, k) :: plan) fr (Sat w0 G) := RD.no (fun _ _ => trivial) hi hg hd hk hr
end
section
variable {P : Program} {n : Nat} {fr : Fr} {S : As} {Q : Po}
theorem cq {c : Code} (fr' : Fr) (h : T P n c fr' S Q) (hf : Vg.Sub fr fr' := by (repeat (first | exact trivial | refine ⟨rfl, ?_⟩))) : T P n c fr S Q := T.conseq h hf fun _ s => s
end
end Go.Vg
set_option linter.unusedVariables false
set_option linter.unusedSimpArgs false
set_option linter.unusedVariables false
namespace Go.Vg
open Enc (R)
open Go
variable {P : Program} {n : Nat} {fr : Fr} {S : As} {dst : Option Tmp} {ty : TypeId} {pos : String} {aft : Array Edge} {g : Option (Nat × Bool)}
end Go.Vg
set_option linter.unusedSimpArgs false
set_option linter.unusedVariables false
namespace Go.Vg
open Enc (R)

structure Raw3 where
  a : Value
  b : Value
  c : Value
  ok : (a.oneCell' && (b.oneCell' && c.oneCell')) = true
def Raw3.cells (x : Raw3) : List Value := [x.a, x.b, x.c]
section
variable {α : Type} [Enc α] [Deep α]
def DZ : Hp → List (α × Raw3) → Prop
  | _, [] => True
  | h, z :: zs => ∃ p q, Deep.D p z.1 z.2.cells ∧ DZ q zs ∧ (∀ b, p b = none ∨ q b = none) ∧ Hp.le p h ∧ Hp.le q h
theorem DZ.mono {h h' : Hp} (hl : h.le h') : ∀ {zs : List (α × Raw3)}, DZ h zs → DZ h' zs
  | [], _ => trivial
  | _ :: _, ⟨p, q, a, b, d, l1, l2⟩ => ⟨p, q, a, b, d, Hp.le_trans l1 hl, Hp.le_trans l2 hl⟩
end

/-! ### Chunks -/
section
variable {w0 w : World} {G : List Ch}
variable {α : Type} [Enc α] [Deep α]
end
/-! ### A slice of one's own that may begin anywhere in its array; arrays of three -/
section
variable {w0 w : World} {G : List Ch} {α : Type} [Enc α]
end
section
variable {P : Program} {n : Nat} {fr : Fr} {dst : Option Tmp} {ty : TypeId} {pos : String} {aft : Array Edge} {g : Option (Nat × Bool)}
end
end Go.Vg
set_option linter.unusedSimpArgs false
set_option linter.unusedVariables false
namespace Go.Vg
open Go.RowKit (Below)
open Go.Shelf Go.Lib Go.Sort Go.Proofs
open Enc (R)

section
variable {α : Type} [Inhabited α]
/-- What slices.SortFunc leaves. -/
def sortF (lt : α → α → Bool) (xs : List α) : List α := (pdq lt xs.toArray 0 xs.length (Lib.bitLen xs.length) true true).toList
theorem sortF_spec {lt : α → α → Bool} (hO : SWO lt) (xs : List α) : (sortF lt xs).Perm xs ∧ (sortF lt xs).length = xs.length ∧ ∀ i j, i < j → j < xs.length → lt (sortF lt xs)[j]! (sortF lt xs)[i]! = false := by
  have h := pdq_sorts lt hO xs.toArray 0 xs.length (Lib.bitLen xs.length) true true (Nat.zero_le _) (by simp) (Or.inl rfl)
  obtain ⟨⟨h1, h2, h3⟩, h4⟩ := h
  have hsz : (pdq lt xs.toArray 0 xs.length (Lib.bitLen xs.length) true true).size = xs.length := by rw [h1]; simp
  refine ⟨?_, by unfold sortF; rw [Array.length_toList, hsz], fun i j hij hj => ?_⟩
  · have e0 : ∀ (a : Array α) (n : Nat), a.size = n → a.extract 0 n = a := fun a n h => by subst h; simp
    have e1 := e0 _ _ hsz
    have e2 := e0 xs.toArray xs.length (by simp)
    rw [e1, e2] at h3
    exact h3
  · have := h4 i j (Nat.zero_le _) hij hj
    unfold sortF
    rw [Array.getElem!_toList, Array.getElem!_toList]; exact this
theorem flatMap_get (enc : α → List Value) (k : Nat) (hk : ∀ x, (enc x).length = k) (k0 : 0 < k) : ∀ (xs : List α) (t : Nat), t < xs.length * k → (xs.flatMap enc)[t]? = some (enc xs[t / k]!)[t % k]!
  | [], t, h => by simp at h
  | x :: xs, t, h => by
    rw [List.flatMap_cons]
    by_cases ht : t < k
    · rw [List.getElem?_append_left (by rw [hk]; exact ht), Nat.div_eq_of_lt ht, Nat.mod_eq_of_lt ht]
      have : t < (enc x).length := by rw [hk]; exact ht
      simp [this]
    · rw [List.getElem?_append_right (by rw [hk]; omega), hk]
      have h5 : (xs.length + 1) * k = xs.length * k + k := by rw [Nat.add_mul, Nat.one_mul]
      have h6 : t < (xs.length + 1) * k := h
      rw [flatMap_get enc k hk k0 xs (t - k) (by omega)]
      have h1 : t / k = (t - k) / k + 1 := by rw [Nat.div_eq_sub_div k0 (by omega)]
      have h2 : t % k = (t - k) % k := by rw [Nat.mod_eq_sub_mod (by omega)]
      rw [h1, h2]; simp
theorem flatMap_len {β : Type} (enc : β → List Value) (k : Nat) (hk : ∀ x, (enc x).length = k) : ∀ xs : List β, (xs.flatMap enc).length = xs.length * k
  | [] => by simp
  | x :: xs => by rw [List.flatMap_cons, List.length_append, hk, flatMap_len enc k hk xs, List.length_cons, Nat.add_mul]; omega
variable {P : Program} {ρ : Ren}
theorem sort_core (L : SlLaysF0.n6 P ρ) (k : Nat) (k0 : 0 < k) (aE : ∀ w, (isAgg (ρ.t 24)).run P w = .ok true w) (zE : ∀ w, (Go.sizeOf (ρ.t 24)).run P w = .ok k w) (enc : α → List Value) (hk : ∀ x, (enc x).length = k) (h1 : ∀ x, ∀ v ∈ enc x, v.oneCell' = true)
    (cf : α → α → Int) (hO : SWO (ltOf cf)) (gf : Nat) (eg : ∀ args w, (callFunc gf args).run P w = .ok (.enter gf args) w)
    (hcmp : ∀ (x y : α) (W : World), Calls P gf #[.agg (enc x).toArray, .agg (enc y).toArray] W fun e w' => e = .returned (.int .i64 (cf x y)) ∧ ∃ q os', w' = grow (W.drewN q) os')
    {w0 w : World} {G : List Ch} (g cap : Nat) (zs : List α) (sp : List Value) (e : TypeId) (Pr : Hp → Prop) (hz : zs.length < 4611686018427387904)
    (s : Sat w0 ((fun h => h g = some (.cells (zs.flatMap enc ++ sp).toArray e (0, 0)) ∧ Pr (h.off g)) :: G) w) :
    Calls P (ρ.f 6) #[.slice (some ⟨g, 0, none⟩) zs.length cap, .func (.func gf) #[] #[]] w fun e' w' => e' = .returned (.tuple #[]) ∧ Sat w0 ((fun h => h g = some (.cells ((sortF (ltOf cf) zs).flatMap enc ++ sp).toArray e (0, 0)) ∧ Pr (h.off g)) :: G) w' := by
  obtain ⟨p, ⟨hpg, hpr⟩, hle, hbase⟩ := s.get 0 rfl
  have hg : w.heap[g]? = some (.cells (zs.flatMap enc ++ sp).toArray e (0, 0)) := hle _ _ hpg
  have hgl : g < w.heap.size := lt_of_hp hg
  have hfl := flatMap_len enc k hk zs
  have hH : HoldsK enc k w g 0 zs.toArray := by
    intro j hj
    rw [size_flatK, List.size_toArray] at hj
    refine ⟨?_, ?_⟩
    · rw [get_flatK enc k zs.toArray j (by simpa using hj)]
      simp only [World.cell?, hg, Nat.zero_add]
      rw [if_neg (by simp), List.getElem?_toArray, List.getElem?_append_left (by omega), flatMap_get enc k hk k0 zs j hj]
      simp
    · simp [World.frozen?, hg]
  have hcL : CmpLays P gf #[] enc k cf g 0 zs.toArray.size w := fun m os dk _ x y => by
    have := hcmp x y (sortWorldK enc k w g 0 m dk os)
    simpa using this
  have hc := AnyQ.slices_SortFunc_eq L k aE zE enc hk h1 cf hO gf #[] g 0 cap zs.toArray w eg hcL hH hgl (by simpa using hz)
  rw [List.size_toArray] at hc
  refine hc.mono ?_
  rintro e' w' ⟨rfl, n, os, rfl⟩
  refine ⟨rfl, ?_⟩
  obtain ⟨hperm, hlen, _⟩ := sortF_spec hO zs
  have hsE : (pdq (ltOf cf) zs.toArray 0 zs.length (Lib.bitLen zs.length) true true) = (sortF (ltOf cf) zs).toArray := by unfold sortF; simp
  rw [hsE]
  obtain ⟨ys, hys⟩ : ∃ ys, sortF (ltOf cf) zs = ys := ⟨_, rfl⟩
  rw [hys] at hlen ⊢
  have hfy := flatMap_len enc k hk ys
  have hyz : ys.length * k = zs.length * k := by rw [hlen]
  refine Sat.turn s 0 rfl _ rfl rfl rfl ?_ ?_
  · simp only [sortWorldK, grow, putRowK, Array.size_append, Go.Sort.size_putRow]
    show w.heap.size ≤ w.heap.size + os.size
    omega
  · intro p ⟨hpg, hpr⟩ hle hbase
    have hheap : ∀ b, b < w.heap.size → (sortWorldK enc k w g 0 n ys.toArray os).heap[b]? = (putRowK enc k (Sort.ahead w n) g 0 ys.toArray).heap[b]? := fun b hb => by
      simp only [sortWorldK, grow]
      rw [Array.getElem?_append_left]
      rw [putRowK, Go.Sort.size_putRow]; exact hb
    refine ⟨fun b hb hpb => ?_, fun b => if b = g then some (.cells (ys.flatMap enc ++ sp).toArray e (0, 0)) else p b, ⟨by simp, ?_⟩, fun b o hb => ?_⟩
    · rw [hheap b hb]
      have hbg : g ≠ b := fun h => by subst h; rw [hpg] at hpb; cases hpb
      simp only [putRowK, putRow, mapBlock, Array.getElem?_modify, if_neg hbg]
      rfl
    · have : (Hp.off (fun b => if b = g then some (Obj.cells (ys.flatMap enc ++ sp).toArray e (0, 0)) else p b) g) = p.off g := by
        funext b
        unfold Hp.off
        by_cases hb : b = g <;> simp [hb]
      rw [this]; exact hpr
    · dsimp only at hb
      split at hb
      · rename_i hbg
        subst hbg
        refine ⟨.inl (by rw [hpg]; simp), ?_⟩
        rw [hheap b hgl, ← hb]
        simp only [putRowK, putRow, mapBlock, Array.getElem?_modify, if_pos]
        show (w.heap[b]?).map _ = _
        rw [hg]
        simp only [Option.map_some, onCells, Option.some.injEq, Obj.cells.injEq, and_true]
        apply Array.ext_getElem?
        intro t
        simp only [putCells, Array.getElem?_mapIdx, size_flatK, List.size_toArray, Nat.zero_le, true_and, Nat.zero_add, Nat.sub_zero]
        rw [List.getElem?_toArray, List.getElem?_toArray]
        by_cases ht : t < ys.length * k
        · rw [List.getElem?_append_left (l₁ := ys.flatMap enc) (by omega), flatMap_get enc k hk k0 ys t ht]
          rw [List.getElem?_append_left (by rw [hfl, ← hlen]; exact ht), flatMap_get enc k hk k0 zs t (by rw [← hlen]; exact ht)]
          simp only [Option.map_some, if_pos ht]
          rw [get_flatK enc k ys.toArray t (by simpa using ht)]
          simp
        · rw [List.getElem?_append_right (by omega), List.getElem?_append_right (l₁ := ys.flatMap enc) (by omega), hfl, hfy, hyz]
          cases sp[t - zs.length * k]? with
          | none => rfl
          | some v => rw [hyz] at ht; simp [if_neg ht]
      · exact ⟨.inl (by rw [hb]; simp), by
          have h1 := hle b o hb
          have hb' : b < w.heap.size := lt_of_hp h1
          rw [hheap b hb']
          rename_i hbg
          simp only [putRowK, putRow, mapBlock, Array.getElem?_modify, if_neg (Ne.symm hbg)]
          exact h1⟩
end
end Go.Vg
set_option linter.unusedSimpArgs false
set_option linter.unusedVariables false
namespace Go.Vg
open Go.RowKit (Below)
open Enc (R)
structure RawN (n : Nat) where
  c : List Value
  hl : c.length = n
  h1 : ∀ u ∈ c, u.oneCell' = true
instance {n : Nat} : Inhabited (RawN n) := ⟨⟨List.replicate n (.bool false), by simp, fun u hu => by rw [List.eq_of_mem_replicate hu]; rfl⟩⟩
instance {n : Nat} : Enc (RawN n) where
  sz := n
  R _ x cs := cs = x.c
  len := fun {h x cs} e => by rw [e]; exact x.hl
  one := fun {h x cs} e => by rw [e]; exact x.h1
  mono := fun _ h => h
instance {n : Nat} : Flat (RawN n) := ⟨fun h => h⟩
section
variable {α : Type} [Enc α] [Deep α] {n : Nat}
/-- What elements own, the cells known. -/
def DN : Hp → List (α × RawN n) → Prop
  | _, [] => True
  | h, z :: zs => ∃ p q, Deep.D p z.1 z.2.c ∧ DN q zs ∧ (∀ b, p b = none ∨ q b = none) ∧ Hp.le p h ∧ Hp.le q h
theorem DN.mono {h h' : Hp} (hl : h.le h') : ∀ {zs : List (α × RawN n)}, DN h zs → DN h' zs
  | [], _ => trivial
  | _ :: _, ⟨p, q, a, b, d, l1, l2⟩ => ⟨p, q, a, b, d, Hp.le_trans l1 hl, Hp.le_trans l2 hl⟩
variable {w0 w : World} {G : List Ch}
end
end Go.Vg
set_option linter.unusedSimpArgs false
set_option linter.unusedVariables false
namespace Go.Vg
open Enc (R)
section
variable {P : Program} {n : Nat} {fr : Fr} {dst : Option Tmp} {ty : TypeId} {pos : String} {aft : Array Edge} {g : Option (Nat × Bool)} {S : As} {w0 w : World} {G : List Ch} {F : Ch}
end
end Go.Vg
set_option linter.unusedSimpArgs false
set_option linter.unusedVariables false
namespace Go.Vg
open Go.RowKit (Below)
open Enc (R)
section
variable {w0 w : World} {G : List Ch} {α : Type} [Enc α]
/-- Elements that are read in B. -/
def FA (B : Hp) : Hp → List α → List Value → Prop := fun _ xs cs => RF B xs cs
instance {B : Hp} : PhM w0 (FA (α := α) B) := ⟨fun _ _ d => d⟩
end
section
variable {P : Program} {n : Nat} {fr : Fr} {dst : Option Tmp} {ty : TypeId} {pos : String} {aft : Array Edge} {g : Option (Nat × Bool)} {S : As} {w0 : World} {G : List Ch}
end
end Go.Vg
set_option linter.unusedSimpArgs false
set_option linter.unusedVariables false
namespace Go.Vg
open Go.RowKit (Below)
open Enc (R)
/-- A list behind a slice: the array in H, what its elements hold in A. -/
def R2 {α : Type} [Enc α] (A H : Hp) (xs : List α) (v : Value) : Prop := ∃ p cap, v = .slice p xs.length cap ∧ xs.length ≤ cap ∧ cap ≤ maxLen ∧ (xs = [] ∨ ∃ b o cs, p = some ⟨b, o, none⟩ ∧ RF A xs cs ∧ AtH H b o cs)
section
variable {w0 w : World} {G : List Ch} {α : Type} [Enc α] {A A' H H' : Hp} {xs : List α} {v : Value}
theorem R2.mono (hA : A.le A') (hH : H.le H') (h : R2 A H xs v) : R2 A' H' xs v := by
  obtain ⟨p, cap, e, h1, h2, h3⟩ := h
  refine ⟨p, cap, e, h1, h2, h3.imp id ?_⟩
  rintro ⟨b, o, cs, hp, hr, ha⟩
  exact ⟨b, o, cs, hp, hr.mono hA, ha.mono hH⟩
theorem R2.toR {K : Hp} (hA : A.le K) (hH : H.le K) (h : R2 A H xs v) : R K xs [v] := by
  obtain ⟨p, cap, e, h1, h2, h3⟩ := h.mono hA hH
  exact ⟨p, cap, by rw [e], h1, h2, h3⟩
theorem R2.cut {p : Option Addr} {len cap sz : Nat} (hr : R2 A H xs (.slice p len cap)) {l k : Nat} (hlk : l ≤ k) (hk : k ≤ xs.length) (hsz : sz = Enc.sz α) : R2 A H ((xs.take k).drop l) (.slice (cutP p cap l sz) (k - l) (cap - l)) := by
  subst hsz
  obtain ⟨p', cap', e, h1, h2, h3⟩ := hr
  simp only [Value.slice.injEq] at e
  obtain ⟨rfl, rfl, rfl⟩ := e
  refine ⟨cutP p cap l (Enc.sz α), cap - l, by simp [Nat.min_eq_left hk], by simp; omega, by unfold maxLen at *; omega, ?_⟩
  rcases h3 with rfl | ⟨b, o, cs, rfl, hr, ha⟩
  · left; simp
  · by_cases hc : cap = l
    · left
      apply List.eq_nil_of_length_eq_zero
      simp; omega
    · right
      refine ⟨b, o + l * Enc.sz α, (cs.take (k * Enc.sz α)).drop (l * Enc.sz α), by simp [cutP, hc, add_lit], (hr.take k).drop l, ?_⟩
      obtain ⟨c, t, f, hb, hg⟩ := ha
      refine ⟨c, t, f, hb, fun j v hj => ?_⟩
      rw [List.getElem?_drop, List.getElem?_take] at hj
      split at hj
      · rw [Nat.add_assoc]; exact hg _ _ hj
      · cases hj
theorem R2.take {p : Option Addr} {len cap : Nat} (hr : R2 A H xs (.slice p len cap)) {k : Nat} (hk : k ≤ xs.length) : R2 A H (xs.take k) (.slice p k cap) := by
  have := hr.cut (sz := Enc.sz α) (Nat.zero_le k) hk rfl
  rw [List.drop_zero, Nat.sub_zero, Nat.sub_zero] at this
  obtain ⟨p', cap', e, h1, h2, h3⟩ := hr
  simp only [Value.slice.injEq] at e
  obtain ⟨rfl, rfl, rfl⟩ := e
  refine ⟨p, cap, by simp [Nat.min_eq_left hk], by simp; omega, h2, ?_⟩
  rcases h3 with rfl | ⟨b, o, cs, rfl, hr, ha⟩
  · left; simp
  · refine .inr ⟨b, o, cs.take (k * Enc.sz α), rfl, hr.take k, ?_⟩
    obtain ⟨c, t, f, hb, hg⟩ := ha
    refine ⟨c, t, f, hb, fun j v hj => ?_⟩
    rw [List.getElem?_take] at hj
    split at hj
    · exact hg _ _ hj
    · cases hj
theorem R2.drop {p : Option Addr} {len cap sz : Nat} (hr : R2 A H xs (.slice p len cap)) {l : Nat} (hl : l ≤ xs.length) (hsz : sz = Enc.sz α) : R2 A H (xs.drop l) (.slice (cutP p cap l sz) (len - l) (cap - l)) := by
  have h := hr.cut hl (Nat.le_refl _) hsz
  rw [List.take_length] at h
  obtain ⟨p', cap', e, _⟩ := hr
  simp only [Value.slice.injEq] at e
  rw [e.2.1]; exact h
/-- What reads so, in every world. -/
def Rd2 (S : As) (A : Hp) (xs : List α) (v : Value) : Prop := ∀ w, S w → R2 A (hpOf w) xs v
/-- What stands in chunk j goes to what stands still. -/
theorem Sat.absorb {C : Ch} (k j : Nat) (s : Sat w0 G w) (hk : G[k]? = some (fz A)) (hj : G[j]? = some C) (hne : k ≠ j) : ∃ h, (A.le h ∧ ∃ p, C p ∧ p.le h) ∧ Sat w0 ((G.set k (fz h)).set j dead) w := by
  have s1 := s.merge2 k j hk hj hne (fun r => A.le r ∧ ∃ p, C p ∧ p.le r) fun p q r a b d l1 l2 => by
    have : p = A := a
    subst this
    exact ⟨l1, q, b, l2⟩
  have hkl := (List.getElem?_eq_some_iff.1 hk).1
  have hk1 : ((G.set k (fun r => A.le r ∧ ∃ p, C p ∧ p.le r)).set j dead)[k]? = some (fun r => A.le r ∧ ∃ p, C p ∧ p.le r) := by rw [List.getElem?_set_ne hne.symm, List.getElem?_set_self hkl]
  obtain ⟨h, hh, s2⟩ := s1.freeze k hk1
  rw [List.set_comm _ _ hne.symm, List.set_set] at s2
  exact ⟨h, hh, s2⟩
/-- Nothing yet. -/
theorem Sat.newArena (s : Sat w0 G w) : ∃ h : Hp, True ∧ Sat w0 (G ++ [fz h]) w := by
  obtain ⟨h, _, s1⟩ := Sat.freeze (C := dead) G.length (by simp) (s.addEmpty dead fun _ => trivial)
  exact ⟨h, trivial, by simpa using s1⟩
end
section
variable {P : Program} {n : Nat} {fr : Fr} {dst : Option Tmp} {ty : TypeId} {pos : String} {aft : Array Edge} {g : Option (Nat × Bool)} {S : As} {w0 : World} {G : List Ch}
end
section
variable {S : As} {α : Type} [Enc α] {A : Hp} {xs : List α}
theorem Rd2.take {p : Option Addr} {len cap : Nat} (h : Rd2 S A xs (.slice p len cap)) {k : Nat} (hk : k ≤ xs.length) : Rd2 S A (xs.take k) (.slice p k cap) := fun w s => (h w s).take hk
theorem Rd2.drop {p : Option Addr} {len cap sz : Nat} (h : Rd2 S A xs (.slice p len cap)) {l : Nat} (hl : l ≤ xs.length) (hsz : sz = Enc.sz α) : Rd2 S A (xs.drop l) (.slice (cutP p cap l sz) (len - l) (cap - l)) := fun w s => (h w s).drop hl hsz
theorem Rd2.cut {p : Option Addr} {len cap sz : Nat} (h : Rd2 S A xs (.slice p len cap)) {l k : Nat} (hlk : l ≤ k) (hk : k ≤ xs.length) (hsz : sz = Enc.sz α) : Rd2 S A ((xs.take k).drop l) (.slice (cutP p cap l sz) (k - l) (cap - l)) := fun w s => (h w s).cut hlk hk hsz
end
end Go.Vg
set_option linter.unusedSimpArgs false
set_option linter.unusedVariables false
namespace Go.Vg
open Go.RowKit (Below)
open Enc (R)
open Go.MapKept
section
variable {β : Type}
def kput : List (Int × β) → Int → β → List (Int × β)
  | [], k, v => [(k, v)]
  | (a, b) :: L, k, v => if a = k then (k, v) :: L else (a, b) :: kput L k v
def kget : List (Int × β) → Int → Option β
  | [], _ => none
  | (a, b) :: L, k => if a = k then some b else kget L k
def keys (L : List (Int × β)) : List Int := L.map (·.1)
theorem kget_put (L : List (Int × β)) (k i : Int) (v : β) : kget (kput L k v) i = if i = k then some v else kget L i := by
  induction L with
  | nil =>
    simp only [kput, kget]
    by_cases h : k = i
    · rw [if_pos h, if_pos h.symm]
    · rw [if_neg h, if_neg fun e => h e.symm]
  | cons a L ih =>
    obtain ⟨a, b⟩ := a
    simp only [kput]
    by_cases h : a = k
    · rw [if_pos h]
      simp only [kget]
      by_cases h2 : i = k
      · rw [if_pos h2, if_pos h2.symm]
      · rw [if_neg h2, if_neg fun e => h2 e.symm, if_neg fun e => h2 (by omega)]
    · rw [if_neg h]
      simp only [kget]
      by_cases h2 : a = i
      · rw [if_pos h2, if_pos h2, if_neg (by omega)]
      · rw [if_neg h2, if_neg h2, ih]
theorem keys_put (L : List (Int × β)) (k : Int) (v : β) : (kget L k ≠ none → keys (kput L k v) = keys L) ∧ (kget L k = none → keys (kput L k v) = keys L ++ [k]) := by
  induction L with
  | nil => exact ⟨fun h => absurd rfl h, fun _ => rfl⟩
  | cons a L ih =>
    obtain ⟨a, b⟩ := a
    by_cases h : a = k
    · have e1 : kget ((a, b) :: L) k = some b := by simp [kget, h]
      have e2 : kput ((a, b) :: L) k v = (k, v) :: L := by simp [kput, h]
      rw [e1, e2]
      exact ⟨fun _ => by simp [keys, h], fun e => by cases e⟩
    · have e1 : kget ((a, b) :: L) k = kget L k := by simp [kget, h]
      have e2 : kput ((a, b) :: L) k v = (a, b) :: kput L k v := by simp [kput, h]
      rw [e1, e2]
      exact ⟨fun e => by show a :: keys (kput L k v) = a :: keys L; rw [ih.1 e], fun e => by show a :: keys (kput L k v) = a :: (keys L ++ [k]); rw [ih.2 e]⟩
theorem kget_none {L : List (Int × β)} {k : Int} : kget L k = none ↔ k ∉ keys L := by
  induction L with
  | nil => simp [kget, keys]
  | cons a L ih =>
    obtain ⟨a, b⟩ := a
    simp only [kget, keys, List.map_cons, List.mem_cons, not_or]
    by_cases h : a = k
    · rw [if_pos h]; simp [h]
    · rw [if_neg h, ih]
      exact ⟨fun k1 => ⟨fun e => h e.symm, k1⟩, fun k1 => k1.2⟩
theorem nodup_put {L : List (Int × β)} {k : Int} {v : β} (h : (keys L).Nodup) : (keys (kput L k v)).Nodup := by
  cases hk : kget L k with
  | some u => rw [(keys_put L k v).1 (by rw [hk]; exact fun e => by cases e)]; exact h
  | none =>
    rw [(keys_put L k v).2 hk, List.nodup_append]
    refine ⟨h, by simp, fun a ha b hb => ?_⟩
    simp at hb; subst hb
    exact fun e => kget_none.1 hk (e ▸ ha)
end
def kvv (L : List (Int × Value)) : List (Value × Value) := L.map fun p => (.int .i64 p.1, p.2)
def mapL (b : Nat) (L : List (Int × Value)) : Ch := fun h => ∃ es clock, h b = some (.map es clock) ∧ es.toList.map (fun e => (e.key, e.val)) = kvv L ∧ (keys L).Nodup
theorem findNow_L (k : Int) : ∀ (es : List MapEntry) (L : List (Int × Value)) (i : Nat), es.map (fun e => (e.key, e.val)) = kvv L →
    (kget L k = none ∧ (∀ v, kput L k v = L ++ [(k, v)]) ∧ Instr.findNow (.int .i64) (.int .i64 k) es i = some none) ∨ ∃ j v, L[j]? = some (k, v) ∧ kget L k = some v ∧ (∀ u, kput L k u = L.set j (k, u)) ∧ Instr.findNow (.int .i64) (.int .i64 k) es i = some (some (i + j, v))
  | [], L, i, h => by
    cases L with
    | nil => exact .inl ⟨rfl, fun _ => rfl, rfl⟩
    | cons a L => simp [kvv] at h
  | e :: es, L, i, h => by
    cases L with
    | nil => simp [kvv] at h
    | cons a L =>
      obtain ⟨k', v'⟩ := a
      simp only [kvv, List.map_cons, List.cons.injEq, Prod.mk.injEq] at h
      obtain ⟨⟨h1, h2⟩, h3⟩ := h
      by_cases hk : k' = k
      · subst hk
        exact .inr ⟨0, v', rfl, by simp [kget], fun u => by simp [kput], by simp [Instr.findNow, Instr.sameNow, h1, h2]⟩
      · have hb : (k == k') = false := by simp; exact fun e => hk e.symm
        have hs : Instr.findNow (.int .i64) (.int .i64 k) (e :: es) i = Instr.findNow (.int .i64) (.int .i64 k) es (i + 1) := by
          simp [Instr.findNow, Instr.sameNow, h1, hb]
        rcases findNow_L k es L (i + 1) h3 with ⟨g1, g0, g2⟩ | ⟨j, v, g1, g2, g0, g3⟩
        · exact .inl ⟨by simp [kget, hk, g1], fun v => by simp [kput, hk, g0], by rw [hs, g2]⟩
        · exact .inr ⟨j + 1, v, by simpa using g1, by simp [kget, hk, g2], fun u => by simp [kput, hk, g0], by rw [hs, g3]; simp; omega⟩
/-- What a map type maps ints to: the zero value. -/
def mpZ (P : Program) (t : TypeId) : Option Value := match P.underlying t with
  | some (.map k e) => (match P.underlying k with | some (.int .i64) => (P.info? e).bind (·.zero) | _ => none)
  | _ => none
theorem mpZ_spec {P : Program} {t : TypeId} {z : Value} (h : mpZ P t = some z) : ∃ k e, P.underlying t = some (.map k e) ∧ P.underlying k = some (.int .i64) ∧ ∃ i, P.info? e = some i ∧ i.zero = some z := by
  unfold mpZ at h
  split at h
  · rename_i k e hu
    split at h
    · rename_i hk
      obtain ⟨i, hi, hz⟩ := Option.bind_eq_some_iff.1 h
      exact ⟨k, e, hu, hk, i, hi, hz⟩
    · cases h
  · cases h
section
variable {P : Program} {n : Nat} {fr : Fr} {dst : Option Tmp} {ty : TypeId} {pos : String} {aft : Array Edge} {g : Option (Nat × Bool)} {S : As} {w0 : World} {G : List Ch}
theorem Sat.getMapL {w : World} {k b : Nat} {L : List (Int × Value)} (h : Sat w0 G w) (hk : G[k]? = some (mapL b L)) :
    ∃ es clock, w.heap[b]? = some (.map es clock) ∧ es.toList.map (fun e => (e.key, e.val)) = kvv L ∧ (keys L).Nodup := by
  obtain ⟨p, ⟨es, clock, h1, h2⟩, hl, _⟩ := h.get k hk
  exact ⟨es, clock, hl _ _ h1, h2⟩
theorem Sat.setMapL {w : World} {k b : Nat} {L L' : List (Int × Value)} (s : Sat w0 G w) (hk : G[k]? = some (mapL b L)) {es : Array MapEntry} {clock : Nat}
    (h2 : es.toList.map (fun e => (e.key, e.val)) = kvv L') (h3 : (keys L').Nodup) : Sat w0 (G.set k (mapL b L')) { w with heap := w.heap.setIfInBounds b (.map es clock) } := by
  refine s.turn k hk _ rfl rfl rfl (by simp) fun p hp hl hb => ?_
  obtain ⟨es0, c0, e0, _⟩ := hp
  have hbw := hl _ _ e0
  obtain ⟨g1, g2⟩ := heap_set (o' := .map es clock) (show w.heap[b]? = some _ from hbw)
  refine ⟨fun c hc hn => g2 c (fun e' => by rw [e', e0] at hn; cases hn), fun c => if c = b then some (.map es clock) else p c, ⟨es, clock, by simp, h2, h3⟩, fun c o hc => ?_⟩
  dsimp only at hc
  split at hc
  · rename_i hcb; subst hcb; cases hc
    exact ⟨.inl (by rw [e0]; simp), g1⟩
  · rename_i hcb
    exact ⟨.inl (by rw [hc]; simp), by show (w.heap.setIfInBounds b (.map es clock))[c]? = _; rw [g2 c hcb]; exact hl _ _ hc⟩
theorem Sd.makeMapL {t : TypeId} : Sd P n ⟨dst, .makeMap t none, ty, pos, aft, g⟩ fr (Sat w0 G) (fun b : Nat => .map (some b)) (fun b => Sat w0 (G ++ [mapL b []])) := fun a w k s => by
  have : (execOp a.eval ⟨dst, .makeMap t none, ty, pos, aft, g⟩).run P w = .ok (.value (.map (some w.heap.size))) (w.alloc (.map #[] 0)) := by
    simp [execOp, Instr.makeMap]
  rw [this]
  refine ⟨w.heap.size, rfl, s.new (Ext.alloc w _) _ (fun b => if b = w.heap.size then some (.map #[] 0) else none) ⟨#[], 0, by simp, rfl, by simp [keys]⟩ (fun b o hb => ?_) (fun b o hb => ?_)⟩
  · dsimp only at hb
    split at hb
    · rename_i hb'; subst hb'; cases hb
      exact (heap_alloc w _).1
    · cases hb
  · split at hb
    · omega
    · cases hb
theorem Qt.lookL2 (k : Nat) {t : TypeId} {x y : Operand} {b : Nat} {L : List (Int × Value)} {i : Int} {z : Value} (ht : mpZ P t = some z) (hx : ev fr x = some (.map (some b))) (hy : ev fr y = some (.int .i64 i)) (hk : G[k]? = some (mapL b L)) :
    Qt P n ⟨dst, .lookup t x y true, ty, pos, aft, g⟩ fr (Sat w0 G) (.tuple #[(kget L i).getD z, .bool (kget L i).isSome]) := fun a w kn s => by
  obtain ⟨kt, et, u1, u2, inf, u3, u4⟩ := mpZ_spec ht
  obtain ⟨es, clock, e1, e2, e3⟩ := s.getMapL hk
  have hck : (Instr.checkKey es.isEmpty 10000 kt (.int .i64 i)).run P w = .ok () w := Go.MapKept.run_checkKey u2 (by simp [IsKey]) _ _
  rcases findNow_L i es.toList L 0 e2 with ⟨f1, _, f2⟩ | ⟨j, v, f0, f1, _, f2⟩
  · have hr : (execOp a.eval ⟨dst, .lookup t x y true, ty, pos, aft, g⟩).run P w = .ok (.value (.tuple #[z, .bool false])) w := by
      simp [execOp, kn.ev hx, kn.ev hy, Instr.lookup, run_underlying u1, Go.MapKept.run_getObj_map e1, hck, Go.MapKept.run_findKey u2 f2, zeroValue, typeInfo, u3, u4, Result.andThen]
    rw [hr, f1]; exact ⟨Ext.refl w, rfl⟩
  · have hr : (execOp a.eval ⟨dst, .lookup t x y true, ty, pos, aft, g⟩).run P w = .ok (.value (.tuple #[v, .bool true])) w := by
      simp [execOp, kn.ev hx, kn.ev hy, Instr.lookup, run_underlying u1, Go.MapKept.run_getObj_map e1, hck, Go.MapKept.run_findKey u2 f2, Result.andThen]
    rw [hr, f1]; exact ⟨Ext.refl w, rfl⟩
theorem Qt.lookL1 (k : Nat) {t : TypeId} {x y : Operand} {b : Nat} {L : List (Int × Value)} {i : Int} {z : Value} (ht : mpZ P t = some z) (hx : ev fr x = some (.map (some b))) (hy : ev fr y = some (.int .i64 i)) (hk : G[k]? = some (mapL b L)) :
    Qt P n ⟨dst, .lookup t x y false, ty, pos, aft, g⟩ fr (Sat w0 G) ((kget L i).getD z) := fun a w kn s => by
  obtain ⟨kt, et, u1, u2, inf, u3, u4⟩ := mpZ_spec ht
  obtain ⟨es, clock, e1, e2, e3⟩ := s.getMapL hk
  have hck : (Instr.checkKey es.isEmpty 10000 kt (.int .i64 i)).run P w = .ok () w := Go.MapKept.run_checkKey u2 (by simp [IsKey]) _ _
  rcases findNow_L i es.toList L 0 e2 with ⟨f1, _, f2⟩ | ⟨j, v, f0, f1, _, f2⟩
  · have hr : (execOp a.eval ⟨dst, .lookup t x y false, ty, pos, aft, g⟩).run P w = .ok (.value z) w := by
      simp [execOp, kn.ev hx, kn.ev hy, Instr.lookup, run_underlying u1, Go.MapKept.run_getObj_map e1, hck, Go.MapKept.run_findKey u2 f2, zeroValue, typeInfo, u3, u4, Result.andThen]
    rw [hr, f1]; exact ⟨Ext.refl w, rfl⟩
  · have hr : (execOp a.eval ⟨dst, .lookup t x y false, ty, pos, aft, g⟩).run P w = .ok (.value v) w := by
      simp [execOp, kn.ev hx, kn.ev hy, Instr.lookup, run_underlying u1, Go.MapKept.run_getObj_map e1, hck, Go.MapKept.run_findKey u2 f2, Result.andThen]
    rw [hr, f1]; exact ⟨Ext.refl w, rfl⟩
theorem Sd.mapPut (k : Nat) {t : TypeId} {x y z : Operand} {b : Nat} {L : List (Int × Value)} {i : Int} {v zv : Value} (ht : mpZ P t = some zv) (hx : ev fr x = some (.map (some b))) (hy : ev fr y = some (.int .i64 i)) (hz : ev fr z = some v) (hk : G[k]? = some (mapL b L)) :
    Sd P n ⟨none, .mapUpdate t x y z, ty, pos, aft, g⟩ fr (Sat w0 G) (fun _ : Unit => undef) (fun _ => Sat w0 (G.set k (mapL b (kput L i v)))) := fun a w kn s => by
  obtain ⟨kt, et, u1, u2, inf, u3, u4⟩ := mpZ_spec ht
  obtain ⟨es, clock, e1, e2, e3⟩ := s.getMapL hk
  have hck : (Instr.checkKey false 10000 kt (.int .i64 i)).run P w = .ok () w := Go.MapKept.run_checkKey u2 (by simp [IsKey]) _ _
  rcases findNow_L i es.toList L 0 e2 with ⟨f1, fp, f2⟩ | ⟨j, u, f0, f1, fp, f2⟩
  · have hr : (execOp a.eval ⟨none, .mapUpdate t x y z, ty, pos, aft, g⟩).run P w = .ok .skip { w with heap := w.heap.setIfInBounds b (.map (es.push { key := .int .i64 i, val := v, born := clock }) (clock + 1)) } := by
      simp [execOp, kn.ev hx, kn.ev hy, kn.ev hz, Instr.mapUpdate, run_underlying u1, Go.MapKept.run_getObj_map e1, hck, Go.MapKept.run_findKey u2 f2, Result.andThen, Go.MapKept.run_setObj_map _ e1]
    rw [hr]
    refine ⟨(), rfl, s.setMapL hk ?_ (nodup_put e3)⟩
    rw [fp]
    simp [kvv] at e2 ⊢; exact e2
  · have hje : ∃ e, es[j]? = some e ∧ e.key = .int .i64 i := by
      have h1 : (es.toList.map (fun e => (e.key, e.val)))[j]? = some (.int .i64 i, u) := by rw [e2]; simp [kvv, f0]
      rw [List.getElem?_map] at h1
      obtain ⟨e, he, hq⟩ := Option.map_eq_some_iff.1 h1
      exact ⟨e, by simpa using he, (Prod.mk.inj hq).1⟩
    obtain ⟨e, he, hek⟩ := hje
    rw [Nat.zero_add] at f2
    have hkey : ((es[j]?).map (·.key)).getD (.int .i64 i) = .int .i64 i := by rw [he]; simp [hek]
    have hst : (Instr.keyThatStays (.int .i64 i) (.int .i64 i)).run P w = .ok (.int .i64 i) w := by
      simp [Instr.keyThatStays, Instr.sameBits]
    have hr : (execOp a.eval ⟨none, .mapUpdate t x y z, ty, pos, aft, g⟩).run P w = .ok .skip { w with heap := w.heap.setIfInBounds b (.map (es.modify j fun e => { e with key := .int .i64 i, val := v }) clock) } := by
      simp only [execOp, kn.ev hx, kn.ev hy, kn.ev hz, Instr.mapUpdate, Sem.run_bind, run_underlying u1, Go.MapKept.run_getObj_map e1, hck, Go.MapKept.run_findKey u2 f2, Result.andThen, hkey, hst, Go.MapKept.run_setObj_map _ e1, Sem.run_pure]
    rw [hr]
    refine ⟨(), rfl, s.setMapL hk ?_ (nodup_put e3)⟩
    rw [fp]
    refine List.ext_getElem? fun q => ?_
    have h1 : (es.toList.map (fun e => (e.key, e.val)))[q]? = (kvv L)[q]? := by rw [e2]
    simp only [Array.toList_modify, List.getElem?_map, List.getElem?_modify, kvv, List.getElem?_set] at h1 ⊢
    have hl := congrArg List.length e2
    simp only [List.length_map, kvv, Array.length_toList] at hl
    by_cases hq : j = q
    · subst hq
      have hlt : j < L.length := (List.getElem?_eq_some_iff.1 f0).1
      simp [he, hlt]
    · simp only [if_neg hq, h1]
      cases hqq : es.toList[q]? with
      | none => rw [hqq] at h1; simpa using h1
      | some e' => rw [hqq] at h1; simpa using h1
end
end Go.Vg
set_option linter.unusedVariables false
set_option linter.unusedSimpArgs false
namespace Go.Vg
open Go.RowKit (Below)
open Enc (R)
section
variable {α β : Type}
def vmap (f : α → β) (L : List (Int × α)) : List (Int × β) := L.map fun e => (e.1, f e.2)
theorem kget_vmap (f : α → β) (L : List (Int × α)) (k : Int) : kget (vmap f L) k = (kget L k).map f := by
  induction L with
  | nil => rfl
  | cons a L ih =>
    obtain ⟨a, b⟩ := a
    show (if a = k then some (f b) else kget (vmap f L) k) = _
    by_cases h : a = k
    · rw [if_pos h]; simp [kget, h]
    · rw [if_neg h, ih]; simp [kget, h]
theorem kput_vmap (f : α → β) (L : List (Int × α)) (k : Int) (v : α) : kput (vmap f L) k (f v) = vmap f (kput L k v) := by
  induction L with
  | nil => rfl
  | cons a L ih =>
    obtain ⟨a, b⟩ := a
    show (if a = k then (k, f v) :: vmap f L else (a, f b) :: kput (vmap f L) k (f v)) = _
    by_cases h : a = k
    · rw [if_pos h]; simp [kput, h, vmap]
    · rw [if_neg h, ih]; simp [kput, h, vmap]
theorem vget_mem {L : List (Int × α)} {k : Int} {v : α} (h : kget L k = some v) : (k, v) ∈ L := by
  induction L with
  | nil => cases h
  | cons a L ih =>
    obtain ⟨a, b⟩ := a
    by_cases e : a = k
    · simp [kget, e] at h; subst h; subst e; exact List.mem_cons_self ..
    · simp [kget, e] at h; exact List.mem_cons_of_mem _ (ih h)
theorem mem_vput {L : List (Int × α)} {k : Int} {v : α} {e : Int × α} (h : e ∈ kput L k v) : e = (k, v) ∨ e ∈ L := by
  induction L with
  | nil => simp [kput] at h; exact .inl h
  | cons a L ih =>
    obtain ⟨a, b⟩ := a
    by_cases e' : a = k
    · simp [kput, e'] at h
      rcases h with h | h
      · exact .inl h
      · exact .inr (List.mem_cons_of_mem _ h)
    · simp [kput, e'] at h
      rcases h with h | h
      · subst h; exact .inr (List.mem_cons_self ..)
      · rcases ih h with h | h
        · exact .inl h
        · exact .inr (List.mem_cons_of_mem _ h)
/-- Where, and what. -/
def vraw (L : List (Int × (Value × α))) : List (Int × Value) := vmap Prod.fst L
def vabs (L : List (Int × (Value × α))) : List (Int × α) := vmap Prod.snd L
theorem vraw_get {L : List (Int × (Value × α))} {k : Int} {z : Value × α} (h : kget L k = some z) (d : Value) : (kget (vraw L) k).getD d = z.1 := by
  unfold vraw; rw [kget_vmap, h]; rfl
theorem vraw_none {L : List (Int × (Value × α))} {k : Int} (h : kget L k = none) (d : Value) : (kget (vraw L) k).getD d = d := by
  unfold vraw; rw [kget_vmap, h]; rfl
theorem vraw_some (L : List (Int × (Value × α))) (k : Int) : (kget (vraw L) k).isSome = (kget (vabs L) k).isSome := by
  unfold vraw vabs; rw [kget_vmap, kget_vmap]; cases kget L k <;> rfl
theorem vraw_put {L : List (Int × (Value × α))} {k : Int} (z : Value × α) : kput (vraw L) k z.1 = vraw (kput L k z) := kput_vmap _ _ _ _
theorem vabs_put {L : List (Int × (Value × α))} {k : Int} (z : Value × α) : kput (vabs L) k z.2 = vabs (kput L k z) := kput_vmap _ _ _ _
end
theorem cellV {w : World} {b o : Nat} {cs : List Value} {e : TypeId} {v : Value} (h : w.heap[b]? = some (.cells cs.toArray e (0, 0))) (hv : cs[o]? = some v) : w.cell? ⟨b, o, none⟩ = some v := by
  simp [World.cell?, h, hv]
section
variable {w0 : World} {G : List Ch} {P : Program} {n : Nat} {fr : Fr} {dst : Option Tmp} {ty : TypeId} {pos : String} {aft : Array Edge} {gd : Option (Nat × Bool)}
/-- A load out of what stands still. -/
theorem Qt.ldFz {t e : TypeId} {x : Operand} {b o : Nat} {cs : List Value} {v : Value} {H : Hp} (k : Nat) (hk : G[k]? = some (fz H)) (ht : tySz P t = some (1, false)) (hx : ev fr x = some (.pointer (some ⟨b, o, none⟩))) (hb : blk b cs e H) (hv : cs[o]? = some v) :
    Qt P n ⟨dst, .load t x, ty, pos, aft, gd⟩ fr (Sat w0 G) v := Qt.ld ht hx fun w s => cellV (Held.fz k hk w s _ _ hb) hv
theorem Qt.lookV (k : Nat) {t : TypeId} {x y : Operand} {b : Nat} {L : List (Int × Value)} {i : Int} {z v : Value} (hv : (kget L i).getD z = v) (ht : mpZ P t = some z) (hx : ev fr x = some (.map (some b))) (hy : ev fr y = some (.int .i64 i)) (hk : G[k]? = some (mapL b L)) :
    Qt P n ⟨dst, .lookup t x y false, ty, pos, aft, gd⟩ fr (Sat w0 G) v := hv ▸ Qt.lookL1 k ht hx hy hk
theorem Qt.lookV2 (k : Nat) {t : TypeId} {x y : Operand} {b : Nat} {L : List (Int × Value)} {i : Int} {z v : Value} {c : Bool} (hv : (kget L i).getD z = v) (hc : (kget L i).isSome = c) (ht : mpZ P t = some z) (hx : ev fr x = some (.map (some b))) (hy : ev fr y = some (.int .i64 i)) (hk : G[k]? = some (mapL b L)) :
    Qt P n ⟨dst, .lookup t x y true, ty, pos, aft, gd⟩ fr (Sat w0 G) (.tuple #[v, .bool c]) := hv ▸ hc ▸ Qt.lookL2 k ht hx hy hk
end
/-! ### Rows that a map owns -/
theorem star_swap {A C X : Ch} {h : Hp} : star A (star C X) h → star C (star A X) h := by
  rintro ⟨p, r, hp, ⟨c, x, hc, hx, hd, l1, l2⟩, hd2, l3, l4⟩
  have dis : ∀ (u v : Hp), (∀ b, p b = none ∨ r b = none) → u.le r → ∀ b, p b = none ∨ u b = none := fun u v hd hu b => by
    rcases hd b with h | h
    · exact .inl h
    · right
      cases e : u b with
      | none => rfl
      | some o => rw [hu b o e] at h; cases h
  refine ⟨c, p.over x, hc, ⟨p, x, hp, hx, dis x x hd2 l2, Hp.le_over _ _, fun b o e => ?_⟩, fun b => ?_, fun b o e => l4 b o (l1 b o e), Hp.over_le l3 fun b o e => l4 b o (l2 b o e)⟩
  · rcases dis x x hd2 l2 b with h1 | h1
    · unfold Hp.over; rw [h1]; exact e
    · rw [h1] at e; cases e
  · rcases dis c c hd2 l1 b with h1 | h1
    · rcases hd b with h2 | h2
      · exact .inl h2
      · right; unfold Hp.over; rw [h1]; exact h2
    · exact .inl h1
theorem star_monoR {A B C : Ch} {h : Hp} (hbc : ∀ p, B p → C p) : star A B h → star A C h := fun ⟨p, q, a, b, c⟩ => ⟨p, q, a, hbc q b, c⟩
theorem stars_out : ∀ {A B : List Ch} {C : Ch} {h : Hp}, stars (A ++ C :: B) h → star C (stars (A ++ B)) h
  | [], B, C, h, s => s
  | a :: A, B, C, h, s => star_swap (star_monoR (fun p hp => stars_out (A := A) hp) s)
theorem stars_in : ∀ {A B : List Ch} {C : Ch} {h : Hp}, star C (stars (A ++ B)) h → stars (A ++ C :: B) h
  | [], B, C, h, s => s
  | a :: A, B, C, h, s => star_monoR (fun p hp => stars_in (A := A) hp) (star_swap s)
abbrev RowAt := (Option Nat × Nat) × List Int
def rwc (e : TypeId) (z : RowAt) : Ch := row nilH e (rowV z.1 z.2.length) z.2
def rws (e : TypeId) (L : List (Int × RowAt)) : List Ch := L.map fun x => rwc e x.2
def rwv (L : List (Int × RowAt)) : List (Int × Value) := vmap (fun z : RowAt => rowV z.1 z.2.length) L
def rwx (L : List (Int × RowAt)) : List (Int × List Int) := vmap Prod.snd L
def vdel {β : Type} (L : List (Int × β)) (k : Int) : List (Int × β) := match L with
  | [] => []
  | (a, b) :: L => if a = k then L else (a, b) :: vdel L k
theorem vdel_some {β : Type} {L : List (Int × β)} {k : Int} {v : β} (h : kget L k = some v) : ∃ A B, L = A ++ (k, v) :: B ∧ vdel L k = A ++ B ∧ ∀ u, kput L k u = A ++ (k, u) :: B := by
  induction L with
  | nil => cases h
  | cons a L ih =>
    obtain ⟨a, b⟩ := a
    by_cases e : a = k
    · simp [kget, e] at h; subst h; subst e
      exact ⟨[], L, rfl, by simp [vdel], fun u => by simp [kput]⟩
    · simp [kget, e] at h
      obtain ⟨A, B, h1, h2, h3⟩ := ih h
      exact ⟨(a, b) :: A, B, by rw [h1]; rfl, by simp [vdel, e, h2], fun u => by simp [kput, e, h3]⟩
theorem vdel_none {β : Type} {L : List (Int × β)} {k : Int} (h : kget L k = none) : vdel L k = L ∧ ∀ u, kput L k u = L ++ [(k, u)] := by
  induction L with
  | nil => exact ⟨rfl, fun u => rfl⟩
  | cons a L ih =>
    obtain ⟨a, b⟩ := a
    by_cases e : a = k
    · simp [kget, e] at h
    · simp [kget, e] at h
      obtain ⟨h1, h2⟩ := ih h
      exact ⟨by simp [vdel, e, h1], fun u => by simp [kput, e, h2]⟩
section
variable {w0 w : World} {G : List Ch}
/-- The row under a key, taken out; an empty one if there is none. -/
theorem Sat.pullRow {e : TypeId} {L : List (Int × RowAt)} (j : Nat) (k : Int) (s : Sat w0 G w) (hj : G[j]? = some (stars (rws e L))) :
    Sat w0 (G.set j (stars (rws e (vdel L k))) ++ [rwc e ((kget L k).getD ((none, 0), []))]) w := by
  have hjl := (List.getElem?_eq_some_iff.1 hj).1
  cases h : kget L k with
  | none =>
    rw [(vdel_none h).1]
    have e1 : G.set j (stars (rws e L)) = G := by
      refine List.ext_getElem? fun i => ?_
      by_cases hi : j = i
      · subst hi; rw [List.getElem?_set_self hjl, hj]
      · rw [List.getElem?_set_ne hi]
    rw [e1]
    exact s.nilRow (α := Int) e
  | some z =>
    obtain ⟨A, B, h1, h2, _⟩ := vdel_some h
    rw [h2]
    have s1 := s.weaken j hj (star (stars (rws e (A ++ B))) (rwc e z)) fun p hp => by
      rw [h1] at hp
      have hp' : stars (rws e A ++ rwc e z :: rws e B) p := by simpa [rws] using hp
      obtain ⟨c, x, hc, hx, hd, l1, l2⟩ := stars_out hp'
      exact ⟨x, c, by simpa [rws] using hx, hc, fun b => (hd b).symm, l2, l1⟩
    have s2 := s1.splitAt (A := stars (rws e (A ++ B))) (B := rwc e z) j (by rw [List.getElem?_set_self hjl])
    simpa using s2
/-- A row put back. -/
theorem Sat.pushRow {e : TypeId} {L : List (Int × RowAt)} {z : RowAt} (k : Int) (s : Sat w0 (rwc e z :: stars (rws e (vdel L k)) :: G) w) : Sat w0 (stars (rws e (kput L k z)) :: G) w := by
  have s1 := s.toStar
  have s2 := s1.weaken 0 rfl (stars (rws e (kput L k z))) fun p hp => by
    cases h : kget L k with
    | none =>
      rw [(vdel_none h).1] at hp
      rw [(vdel_none h).2]
      have : stars (rws e L ++ rwc e z :: []) p := stars_in (by simpa using hp)
      simpa [rws] using this
    | some u =>
      obtain ⟨A, B, h1, h2, h3⟩ := vdel_some h
      rw [h2] at hp
      rw [h3]
      have : stars (rws e A ++ rwc e z :: rws e B) p := stars_in (by simpa [rws] using hp)
      simpa [rws] using this
  simpa using s2
theorem rwv_get (L : List (Int × RowAt)) (k : Int) : (kget (rwv L) k).getD (.slice none 0 0) = rowV ((kget L k).getD ((none, 0), [])).1 ((kget L k).getD ((none, 0), [])).2.length := by
  unfold rwv; rw [kget_vmap]
  cases kget L k <;> rfl
theorem rwx_get (L : List (Int × RowAt)) (k : Int) : ((kget (rwx L) k).getD []) = ((kget L k).getD ((none, 0), [])).2 := by
  unfold rwx; rw [kget_vmap]
  cases kget L k <;> rfl
theorem rwv_put {L : List (Int × RowAt)} {k : Int} (z : RowAt) : kput (rwv L) k (rowV z.1 z.2.length) = rwv (kput L k z) := kput_vmap (fun z : RowAt => rowV z.1 z.2.length) L k z
theorem rwx_put {L : List (Int × RowAt)} {k : Int} (z : RowAt) : kput (rwx L) k z.2 = rwx (kput L k z) := kput_vmap Prod.snd L k z
/-- Rows that a map owns, read in what stands still. -/
theorem rws_R {e : TypeId} : ∀ {L : List (Int × RowAt)} {p : Hp}, stars (rws e L) p → ∀ x ∈ L, R p x.2.2 [rowV x.2.1 x.2.2.length]
  | [], p, _, x, hx => by cases hx
  | a :: L, p, ⟨c, q, hc, hq, _, l1, l2⟩, x, hx => by
    rcases List.mem_cons.1 hx with rfl | hx
    · exact Enc.mono l1 (row_R hc)
    · exact Enc.mono l2 (rws_R hq x hx)
end
section
variable {P : Program} {n : Nat} {fr : Fr} {dst : Option Tmp} {ty : TypeId} {pos : String} {aft : Array Edge} {g : Option (Nat × Bool)} {S : As} {w0 : World} {G : List Ch}
/-- A call of a function value. -/
theorem Sd.callV {f : FuncId} {cs : List Value} {xo : Operand} {xs : List Operand} {ts : Array TypeId} {vs : List Value} (he : Ent P f) (hv : ev fr xo = some (.func (.func f) #[] cs.toArray)) (hx : evs fr xs = some vs) {ι : Type} {val : ι → Value} {S' : ι → As}
    (hc : ∀ w, S w → Calls P f (vs ++ cs).toArray w (fun e w' => ∃ i, e = .returned (val i) ∧ S' i w')) :
    Sd P n ⟨dst, .call { callee := .value xo, args := xs.toArray, argTypes := ts }, ty, pos, aft, g⟩ fr S val S' := fun a w k s => by
  rw [run_enterV he hv hx k, show vs.toArray ++ cs.toArray = (vs ++ cs).toArray by simp]
  exact hc w s
/-- Two results, each in a block of its own. -/
theorem Cont.retCC {fn : Func} {R : Ending → World → Prop} {t t' ty ty' sz b b' : Nat} {e e' : TypeId} {cs : List Value} {v' : Value} (k k' : Nat) (hr : fn.results = #[.cell t ty, .cell t' ty']) (ht : tySz P ty = some (sz, true)) (ht' : tySz P ty' = some (1, false)) (hv : look fr t = some (.pointer (some ⟨b, 0, none⟩))) (hv' : look fr t' = some (.pointer (some ⟨b', 0, none⟩)))
    (hk : G[k]? = some (blk b cs e)) (hk' : G[k']? = some (blk b' [v'] e')) (hl : cs.length = sz) (h : ∀ w, Sat w0 G w → R (.returned (.tuple #[.agg cs.toArray, v'])) w) : Cont n (bodyPost P fn R .ret) fr (Sat w0 G) := fun a w kn s => by
  have hld := run_loadVarA (P := P) (w := w) (b := b) (o := 0) ht hl (fun j v hj => by
    have := (s.getBlk hk).1
    simp [World.cell?, this, hj])
  have hld' := run_loadVar1 (P := P) (w := w) (a := ⟨b', 0, none⟩) (v := v') ht' (by
    have := (s.getBlk hk').1
    simp [World.cell?, this])
  have hp := kn.getD hv
  have hq := kn.getD hv'
  refine bodyPost_ret (v := .tuple #[.agg cs.toArray, v']) ?_ kn.defers (h w s)
  have hp' : a.tmps[t]?.getD undef = .pointer (some ⟨b, 0, none⟩) := by simpa [Array.getD_eq_getD_getElem?] using hp
  have hq' : a.tmps[t']?.getD undef = .pointer (some ⟨b', 0, none⟩) := by simpa [Array.getD_eq_getD_getElem?] using hq
  simp [results, hr, hp', hq', asAddr, hld, hld']
end
/-- A field of a struct's value. -/
def fldTy (P : Program) (s f : Nat) : Option (Nat × Nat) := match P.underlying s with
  | some (.struct fs) => (fs[f]?).map fun x => (x.type, x.offset)
  | _ => none
theorem Pu.fieldS {P : Program} {n : Nat} {fr : Fr} {dst : Option Tmp} {ty : TypeId} {pos : String} {aft : Array Edge} {g : Option (Nat × Bool)} {s f t off : Nat} {x : Operand} {cs : List Value} {v : Value} (hf : fldTy P s f = some (t, off)) (ht : tySz P t = some (1, false)) (hx : ev fr x = some (.agg cs.toArray)) (hv : cs[off]? = some v) :
    Pu P n ⟨dst, .field s x f, ty, pos, aft, g⟩ fr v := fun a k w => by
  unfold fldTy at hf
  split at hf
  · rename_i fs hu
    obtain ⟨fd, h1, h2⟩ := Option.map_eq_some_iff.1 hf
    obtain ⟨h3, h4⟩ := Prod.mk.inj h2
    subst h3; subst h4
    simp [execOp, k.ev hx, Instr.field, run_underlying hu, h1, asAgg, part, run_isAgg_of ht, hv, Result.andThen]
  · cases hf
end Go.Vg
set_option linter.unusedVariables false
namespace Go.Vg
open Enc (R)
open Go
variable {P : Program} {n : Nat} {fr : Fr} {S : As} {dst : Option Tmp} {ty : TypeId} {pos : String} {aft : Array Edge} {g : Option (Nat × Bool)}
theorem xor1_nat (m : Nat) : m ^^^ 1 = m + 1 - 2 * (m % 2) := by
  have h1 : (m ^^^ 1) / 2 = m / 2 := by rw [Nat.xor_div_two]; simp
  have h2 := Nat.xor_mod_two_eq_one (a := m) (b := 1)
  omega
theorem xor1_wrap {a : Int} (h : 0 ≤ a ∧ a ≤ 9223372036854775807) : IntKind.i64.wrap (((a % 2 ^ IntKind.i64.bits).toNat ^^^ 1 % 2 ^ IntKind.i64.bits : Nat) : Int) = a + 1 - 2 * (a % 2) := by
  have e3 : 1 % 2 ^ IntKind.i64.bits = 1 := by decide
  have eb : IntKind.i64.bits = 64 := rfl
  rw [e3, eb, xor1_nat]
  have e : (a % 2 ^ 64) = a := Int.emod_eq_of_lt (by omega) (by omega)
  rw [e]
  have hm : (((a.toNat + 1 - 2 * (a.toNat % 2) : Nat)) : Int) = a + 1 - 2 * (a % 2) := by omega
  rw [hm]
  generalize hb : a + 1 - 2 * (a % 2) = b
  have e2 : b % 2 ^ 64 = b := Int.emod_eq_of_lt (by omega) (by omega)
  simp only [IntKind.wrap, IntKind.bits, IntKind.signed, e2]
  rw [if_neg]
  simp
  omega
theorem Pu.xor1 {xt yt : TypeId} {x y : Operand} {a : Int} (hx : ev fr x = some (.int .i64 a)) (hy : ev fr y = some (.int .i64 1)) (h : 0 ≤ a ∧ a ≤ 9223372036854775807) :
    Pu P n ⟨dst, .binOp .xor xt x y yt, ty, pos, aft, g⟩ fr (.int .i64 (a + 1 - 2 * (a % 2))) := fun ac kn w => by
  simp [execOp, kn.ev hx, kn.ev hy, binOp, eqGuard, Op.intBits]
  exact xor1_wrap h
end Go.Vg
set_option linter.unusedSimpArgs false
set_option linter.unusedVariables false
namespace Go.Vg
inductive PlM
  | st (i : Nat) (k : Kd) (r : PlM)
  | three (i : Nat) (k : Kd) (r : Pl) (j : Nat) (kj : Kd) (rj : Pl) (l : Nat) (kl : Kd) (rl : Pl)
def PlM.len : PlM → Nat
  | .st _ _ r => r.len + 1
  | .three _ _ r _ _ _ _ _ _ => r.len + 1
def plOkM (ops : Array Oper) (full : List (Nat × Kd)) : Array Bool → PlM → Bool
  | listed, .st i k r => (Region.ready .any ops listed).contains i && full.lookup i == some k &&
    (match k with
      | .pu | .wk => freeOf ops listed i
      | .rd => freeOf ops listed i && full.all fun (j, kj) => kj != .br || listed.getD j true || waits ops j i
      | .so | .br => Region.ready .any ops listed == [i]) &&
    plOkM ops full (listed.setIfInBounds i true) r
  | listed, .three i k r j kj rj l kl rl => Region.ready .any ops listed == [i, j, l] && full.lookup i == some k && full.lookup j == some kj && full.lookup l == some kl && r.len == rj.len && r.len == rl.len &&
    plOk ops full (listed.setIfInBounds i true) r && plOk ops full (listed.setIfInBounds j true) rj && plOk ops full (listed.setIfInBounds l true) rl
def RM (P : Program) (n : Nat) (ops : Array Oper) (Q : Po) (full : List (Nat × Kd)) (Cw : As) (pl : PlM) (fr : Fr) (S : As) : Prop :=
  ∀ listed, plOkM ops full listed pl = true → noSel ops = true → (∃ w, S w) → AX P n ops Q (fun i => (full.lookup i).getD .so) Cw pl.len listed fr S
section
variable {P : Program} {n : Nat} {ops : Array Oper} {Q : Po} {full : List (Nat × Kd)} {Cw S : As} {fr : Fr} {pl : PlM}
theorem RM.quiet {i : Nat} {k : Kd} {o : Oper} {v : Value} (C : As) (hi : ops[i]? = some o) (hk : k = .pu ∨ k = .wk ∨ k = .rd) (hcl : ClE S) (hcw : ∀ w, S w → Cw w) (hC : ∀ w, S w → C w) (hkC : k ≠ .rd → ∀ w, Cw w → C w)
    (hq : QX P n ops o fr C v) (h : RM P n ops Q full Cw pl (putF o.dst v fr) S) : RM P n ops Q full Cw (.st i k pl) fr S := by
  intro listed hp hns hex
  simp only [plOkM, Bool.and_eq_true, List.contains_iff_mem, beq_iff_eq] at hp
  obtain ⟨⟨⟨h1, hf⟩, h2⟩, h3⟩ := hp
  have hnb : k ≠ .br := by rcases hk with rfl | rfl | rfl <;> simp
  have hfree : freeOf ops listed i = true := by
    rcases hk with rfl | rfl | rfl <;> simp at h2
    · exact h2
    · exact h2
    · exact h2.1
  refine AX.first (noSel_spec hns) hi (by simp [hf, hnb]) pl.len listed fr S C hcl hcw hC ?_ (freeOf_spec hi hfree) h1 hq (h _ h3 hns hex)
  intro j hkj hl hw
  by_cases hkr : k = .rd
  · subst hkr
    simp only [Bool.and_eq_true, List.all_eq_true] at h2
    have hj : full.lookup j = some .br := by
      cases hlj : full.lookup j with
      | none => simp [hlj] at hkj
      | some x => simp [hlj] at hkj; rw [hkj]
    have := h2.2 _ (mem_of_lookup hj)
    simp [hw] at this
    have e : listed[j]?.getD true = false := by simpa using hl
    rw [e] at this; cases this
  · exact hkC hkr
theorem RM.three {i j l : Nat} {k kj kl : Kd} {r rj rl : Pl} (h1 : RT1 P n ops Q full Cw i k r fr S) (h2 : RT1 P n ops Q full Cw j kj rj fr S) (h3 : RT1 P n ops Q full Cw l kl rl fr S) : RM P n ops Q full Cw (.three i k r j kj rj l kl rl) fr S := by
  intro listed hp hns hex
  simp only [plOkM, Bool.and_eq_true, Bool.or_eq_true, beq_iff_eq] at hp
  obtain ⟨⟨⟨⟨⟨⟨⟨⟨hr, hf⟩, hfj⟩, hfl⟩, hl⟩, hl2⟩, hp1⟩, hp2⟩, hp3⟩ := hp
  refine ⟨fun h0 => (by rw [hr] at h0; cases h0), fun y hy => ?_⟩
  rw [hr] at hy
  simp at hy
  rcases hy with rfl | rfl | rfl
  · exact h1 listed hf hp1 hns hex
  · have := h2 listed hfj hp2 hns hex
    rw [← hl] at this
    exact this
  · have := h3 listed hfl hp3 hns hex
    rw [← hl2] at this
    exact this
theorem RM.p {i : Nat} {o : Oper} {v : Value} {w0 : World} {G : List Ch} (hcw : ∀ w, Sat w0 G w → Cw w) (hi : ops[i]? = some o) (h : Pu P n o fr v) (hg : gval ops fr o.guard = some true) (hd : dOk n o.dst = true)
    (hr : RM P n ops Q full Cw pl (putF o.dst v fr) (Sat w0 G)) : RM P n ops Q full Cw (.st i .pu pl) fr (Sat w0 G) :=
  RM.quiet (fun _ => True) hi (.inl rfl) (ClE.sat _ _) hcw (fun _ _ => trivial) (fun _ _ _ => trivial) ⟨hd, .inr ⟨hg, h.qt⟩⟩ hr
theorem RM.q {i : Nat} {o : Oper} {v : Value} {w0 : World} {G : List Ch} (hcw : ∀ w, Sat w0 G w → Cw w) (hi : ops[i]? = some o) (h : Qt P n o fr (Sat w0 G) v) (hg : gval ops fr o.guard = some true) (hd : dOk n o.dst = true)
    (hr : RM P n ops Q full Cw pl (putF o.dst v fr) (Sat w0 G)) : RM P n ops Q full Cw (.st i .rd pl) fr (Sat w0 G) :=
  RM.quiet (Sat w0 G) hi (.inr (.inr rfl)) (ClE.sat _ _) hcw (fun _ s => s) (fun h => absurd rfl h) ⟨hd, .inr ⟨hg, h⟩⟩ hr
theorem RM.w {i : Nat} {o : Oper} {v : Value} {w0 : World} {G : List Ch} (hcw : ∀ w, Sat w0 G w → Cw w) (hi : ops[i]? = some o) (h : Qt P n o fr Cw v) (hg : gval ops fr o.guard = some true) (hd : dOk n o.dst = true)
    (hr : RM P n ops Q full Cw pl (putF o.dst v fr) (Sat w0 G)) : RM P n ops Q full Cw (.st i .wk pl) fr (Sat w0 G) :=
  RM.quiet Cw hi (.inr (.inl rfl)) (ClE.sat _ _) hcw hcw (fun _ _ h => h) ⟨hd, .inr ⟨hg, h⟩⟩ hr
theorem T.drawnM {id : Nat} (Cw : As) (full : List (Nat × Kd)) (pl : PlM) (hm : P.follows .mixedOrders = true) (hcl : ClE S) (hp : (plOkM ops full (Array.replicate ops.size false) pl && noSel ops && pl.len == ops.size) = true)
    (h : RM P n ops Q full Cw pl fr S) : T P n (.region id ops true) fr S Q := by
  simp only [Bool.and_eq_true, beq_iff_eq] at hp
  obtain ⟨⟨h1, h2⟩, h3⟩ := hp
  intro a w k s
  refine wp_region_any hm ?_
  have hx := h _ h1 h2 ⟨_, hcl _ _ s (Ext.drawn w 0)⟩
  rw [h3] at hx
  exact hx.sound _ _ _ _ a _ k (hcl _ _ s (Ext.drawn w _))
theorem T.drawnMS {id : Nat} {w0 : World} {G : List Ch} (f : List Nat) (full : List (Nat × Kd)) (pl : PlM) (hm : P.follows .mixedOrders = true) (hp : (plOkM ops full (Array.replicate ops.size false) pl && noSel ops && pl.len == ops.size) = true)
    {H : List Ch} (hH : pk G f = H) (h : RM P n ops Q full (Sat w0 H) pl fr (Sat w0 G)) : T P n (.region id ops true) fr (Sat w0 G) Q := T.drawnM _ full pl hm (ClE.sat _ _) hp h
end
end Go.Vg
set_option linter.unusedSimpArgs false
set_option linter.unusedVariables false
namespace Go.Vg
open Go.RowKit (Below)
open Enc (R)
section
variable {w0 w : World} {G : List Ch}
end
end Go.Vg
