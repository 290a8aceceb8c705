/-
  Routes: mazes and searches as structures, the memory they own, and what their functions compute, as pure functions. No condition.
-/
import Derived.Test.YthdbofgcckjopaaGreatRH
import Derived.Test.YthdbofgcckjopaaGreatW3
set_option linter.unusedVariables false
set_option linter.unusedSimpArgs false
set_option maxRecDepth 20000
namespace Go.Proofs.YthdbofgcckjopaaGreat
open Go.Vg
open Enc (R)
/-- A maze with its places by sectors. -/
structure Mx where
  z : Mz
  at_ : List (Int × List Int)
/-- A search: the best ways, what is done, what waits. -/
structure Srs where
  best : List (Int × Lbl)
  done : List (Int × Bool)
  q : Que
/-! ### What the functions compute -/
def rowL (m : Mz) (all : List Int) : List Int → List Int → Option (List Int)
  | [], d => some d
  | v :: r, d => Option.bind (route_maze_spot m v) fun k => if 0 ≤ v ∧ v < (all.length : Int) then if 0 ≤ k ∧ k < (d.length : Int) then rowL m all r (si d k (gi all v)) else none else none
def inSec (w s u : Int) : Option Bool := Option.bind (sector_At w u) fun x => some (decide (x = s))
/-- How far it is from a tile to those of its sector, by their spots. -/
def mz_row (m : Mz) (t : Int) : Option (List Int) := Option.bind (sector_At m.net.g.w t) fun s => Option.bind (field_Net_From m.net t (inSec m.net.g.w s)) fun all =>
  Option.bind (sector_Tiles m.net.g.w m.net.g.h s) fun tl => rowL m all tl (List.replicate 64 0)
def mx_far (x : Mx) (t u : Int) : Option Int := Option.bind (mz_row x.z t) fun d => Option.bind (route_maze_spot x.z u) fun k => if 0 ≤ k ∧ k < (d.length : Int) then some (gi d k) else none
def spreadL (x : Mx) (t : Int) (way : Lbl) : List Int → Srs → Option Srs
  | [], y => some y
  | p :: r, y => Option.bind (route_maze_tile x.z p) fun u => Option.bind (mx_far x t u) fun d =>
    if d < 0 then spreadL x t way r y else
    if 0 ≤ p ∧ p ≤ 9223372036854775807 then
    if I64 (way.cost + d) then
    Option.bind (route_maze_over x.z (p / 2)) fun o =>
    if I64 (way.cost + d + o) then
    Option.bind (slices_Clone_Int way.l) fun l =>
    if l.length < 1099511627776 then
    let to := p + 1 - 2 * (p % 2)
    let n : Lbl := ⟨way.cost + d + o, l ++ [p / 2]⟩
    if (kget y.done to).getD false = true then spreadL x t way r y else
    Option.bind (match kget y.best to with | none => some true | some old => route_label_less n old) fun b =>
    if b = true then Option.bind (queue_Queue_Push y.q n.cost to) fun q => spreadL x t way r ⟨kput y.best to n, y.done, q⟩
    else spreadL x t way r y
    else none else none else none else none
def mx_spread (x : Mx) (t : Int) (way : Lbl) (y : Srs) : Option Srs := Option.bind (sector_At x.z.net.g.w t) fun s => if ((kget x.at_ s).getD []).length < 1099511627776 then spreadL x t way ((kget x.at_ s).getD []) y else none
def mx_end (x : Mx) (home goal t : Int) (way : Lbl) (b : Lbl) (ok : Bool) : Option (Lbl × Bool) := Option.bind (sector_At x.z.net.g.w t) fun s =>
  if s = home then Option.bind (mx_far x t goal) fun d => if I64 (way.cost + d) then
    if 0 ≤ d then
      if ok = true then Option.bind (route_label_less ⟨way.cost + d, way.l⟩ b) fun c => if c = true then some (⟨way.cost + d, way.l⟩, true) else some (b, ok)
      else some (⟨way.cost + d, way.l⟩, true)
    else some (b, ok)
  else none
  else some (b, ok)
structure FS where
  cost : Int
  place : Int
  more : Bool
  y : Srs
  b : Lbl
  ok : Bool
def findN (x : Mx) (home goal : Int) : Nat → FS → Option (Lbl × Bool)
  | 0, _ => none
  | n + 1, s =>
    if s.more = true then
      if (kget s.y.done s.place).getD false = true ∨ ((kget s.y.best s.place).getD ⟨0, []⟩).cost < s.cost then
        Option.bind (queue_Queue_Pop s.y.q) fun z => findN x home goal n ⟨z.1, z.2.1, z.2.2.1, ⟨s.y.best, s.y.done, z.2.2.2⟩, s.b, s.ok⟩
      else if s.ok = true ∧ s.b.cost < s.cost then some (s.b, s.ok)
      else Option.bind (route_maze_tile x.z s.place) fun t =>
        Option.bind (mx_end x home goal t ((kget s.y.best s.place).getD ⟨0, []⟩) s.b s.ok) fun e =>
        Option.bind (mx_spread x t ((kget s.y.best s.place).getD ⟨0, []⟩) ⟨s.y.best, kput s.y.done s.place true, s.y.q⟩) fun y =>
        Option.bind (queue_Queue_Pop y.q) fun z => findN x home goal n ⟨z.1, z.2.1, z.2.2.1, ⟨y.best, y.done, z.2.2.2⟩, e.1, e.2⟩
    else some (s.b, s.ok)
def mx_find (n : Nat) (x : Mx) (start goal : Int) : Option (Lbl × Bool) := Option.bind (sector_At x.z.net.g.w goal) fun home =>
  Option.bind (mx_end x home goal start ⟨0, []⟩ ⟨0, []⟩ false) fun e =>
  Option.bind (mx_spread x start ⟨0, []⟩ ⟨[], [], ⟨[]⟩⟩) fun y =>
  Option.bind (queue_Queue_Pop y.q) fun z => findN x home goal n ⟨z.1, z.2.1, z.2.2.1, ⟨y.best, y.done, z.2.2.2⟩, e.1, e.2⟩
/-- The places by sectors. -/
def atL (w : Int) : List Prt → Int → List (Int × List Int) → Option (List (Int × List Int))
  | [], _, A => some A
  | p :: r, k, A => if I64 (2 * k + 1) then Option.bind (sector_At w p.a) fun s => Option.bind (sector_At w p.b) fun u =>
      let A1 := kput A s ((kget A s).getD [] ++ [2 * k])
      if ((kget A s).getD []).length < 1099511627776 then if ((kget A1 u).getD []).length < 1099511627776 then
      atL w r (k + 1) (kput A1 u ((kget A1 u).getD [] ++ [2 * k + 1])) else none else none
    else none
def route_fresh (n : Net) : Option Mx := Option.bind (portal_All n.g.w n.g.h n.free) fun ps => if ps.length < 1099511627776 then Option.bind (atL n.g.w ps 0 []) fun A => some ⟨⟨n, ps⟩, A⟩ else none
def route_Find (F : Nat) (g : Grd) (l : List Bld) (cls size start goal : Int) : Option (Rte × Int) := Option.bind (field_May g l cls size) fun b =>
  if (!b) = true then some (⟨0, [], []⟩, 1) else Option.bind (ground_Is g start) fun b1 =>
  if (!b1) = true then some (⟨0, [], []⟩, 3) else Option.bind (ground_Is g goal) fun b2 =>
  if (!b2) = true then some (⟨0, [], []⟩, 3) else Option.bind (field_Open g l cls size) fun n =>
  if 0 ≤ start ∧ start < (n.free.length : Int) then if 0 ≤ goal ∧ goal < (n.free.length : Int) then
  if (!(gi n.free start)) = true ∨ (!(gi n.free goal)) = true then some (⟨0, [], []⟩, 5) else
  Option.bind (route_fresh n) fun x => Option.bind (mx_find F x start goal) fun e =>
  if (!e.2) = true then some (⟨0, [], []⟩, 5) else Option.bind (route_maze_sectors x.z start e.1.l) fun s => some (⟨e.1.cost, e.1.l, s⟩, 0)
  else none else none
theorem drop_gi {α : Type} [Inhabited α] {l : List α} {k : Int} (h : 0 ≤ k ∧ k < (l.length : Int)) : l.drop k.toNat = gi l k :: l.drop (k + 1).toNat := by
  have h2 : k.toNat < l.length := by omega
  rw [List.drop_eq_getElem_cons h2, show (k + 1).toNat = k.toNat + 1 by omega]
  congr 1
  show _ = l.getD k.toNat default
  simp [List.getD, List.getElem?_eq_getElem h2]
theorem callFx {w0 : World} {P : Program} {f : FuncId} {vs : Array Value} {A B : List Ch} {ι : Type} {val : ι → Value} {A' : ι → List Ch} (hc : ∀ w, Sat w0 (A ++ [stars B]) w → Calls P f vs w fun e w' => ∃ i, e = .returned (val i) ∧ Sat w0 (A' i ++ [stars B]) w') {w : World} (s : Sat w0 (A ++ B) w) :
    Calls P f vs w fun e w' => ∃ i, e = .returned (val i) ∧ Sat w0 (A' i ++ B) w' :=
  (hc w (Sat.toStars B (G := A) s).rot).mono fun e w' ⟨i, h1, h2⟩ => ⟨i, h1, Sat.unstars B h2.rotB⟩
/-! ### The memory of a maze -/
structure MxIn (H0 : Hp) (m : Nat) (x : Mx) where
  hA : Hp
  gf : Nat
  ga : Nat
  n : Nat
  v0 : Value
  v1 : Value
  v2 : Value
  A : List (Int × (Value × List Int))
  F : List (Int × (Value × List Int))
  b1 : blk m [.pointer (some ⟨n, 0, none⟩), v2, .map (some ga), .map (some gf)] 153 hA
  b2 : blk n [.int .i64 x.z.net.g.w, .int .i64 x.z.net.g.h, v0, .int .i64 x.z.net.cls, v1] 101 hA
  r0 : R H0 x.z.net.g.tiles [v0]
  r1 : R hA x.z.net.free [v1]
  r2 : R hA x.z.ps [v2]
  aA : x.at_ = vabs A
  rA : ∀ e ∈ A, R hA e.2.2 [e.2.1]
  rF : ∀ e ∈ F, R hA e.2.2 [e.2.1] ∧ mz_row x.z e.1 = some e.2.2
/-! ### The memory of a search -/
def lblV (z : Value × Lbl) : Value := .agg #[.int .i64 z.2.cost, z.1]
/-- A way's portals: an array of its own. -/
def LB (h : Hp) (l : List Int) (v : Value) : Prop := ∃ q : Option Nat × Nat, v = rowV q l.length ∧ row nilH 3 (rowV q l.length) l h
theorem LB.toR {h : Hp} {l : List Int} {v : Value} : LB h l v → R h l [v] := fun ⟨q, e, k⟩ => by rw [e]; exact row_R k
theorem LB.mono {h h' : Hp} (hl : h.le h') {l : List Int} {v : Value} : LB h l v → LB h' l v := fun ⟨q, e, k⟩ => ⟨q, e, k.imp id fun ⟨g, cap, cs, sp, a1, a2, a3, a4, a5, a6⟩ => ⟨g, cap, cs, sp, a1, hl _ _ a2, a3, a4, a5, a6.any⟩⟩
theorem LB.nil {h : Hp} : LB h [] (.slice none 0 0) := ⟨(none, 0), rfl, .inl ⟨rfl, rfl⟩⟩
theorem LB.row {p : Hp} {q : Option Nat × Nat} {xs : List Int} (hp : row nilH 3 (rowV q xs.length) xs p) : LB p xs (rowV q xs.length) := ⟨q, rfl, hp⟩
structure SrIn (y : Srs) where
  hS : Hp
  gb : Nat
  gd : Nat
  gq : Nat
  B : List (Int × (Value × Lbl))
  aB : y.best = vabs B
  rB : ∀ e ∈ B, LB hS e.2.2.l e.2.1
def SrIn.cs {y : Srs} (q : SrIn y) (s m : Nat) : List Ch := [blk s [.pointer (some ⟨m, 0, none⟩), .map (some q.gb), .map (some q.gd), .pointer (some ⟨q.gq, 0, none⟩)] 160, mapL q.gb (vmap lblV q.B), mapL q.gd (vmap Value.bool y.done), Que_ch q.gq y.q, fz q.hS]
theorem done_get {L : List (Int × Bool)} {k : Int} : (kget (vmap Value.bool L) k).getD (.bool false) = .bool ((kget L k).getD false) := by
  rw [kget_vmap]; cases kget L k <;> rfl
theorem nil_R {H : Hp} : R H ([] : List Int) [.slice none 0 0] := ⟨none, 0, rfl, by simp, by decide, .inl rfl⟩
theorem best_val {y : Srs} (q : SrIn y) (k : Int) : ∃ p c lo, (kget (vmap lblV q.B) k).getD (.agg #[.int .i64 0, .slice none 0 0]) = .agg #[.int .i64 lo.cost, .slice p lo.l.length c] ∧ LB q.hS lo.l (.slice p lo.l.length c) ∧ (kget y.best k).getD ⟨0, []⟩ = lo ∧ (kget (vmap lblV q.B) k).isSome = (kget y.best k).isSome := by
  have e1 : kget (vmap lblV q.B) k = (kget q.B k).map lblV := kget_vmap _ _ _
  have e2 : kget y.best k = (kget q.B k).map Prod.snd := by rw [q.aB]; exact kget_vmap _ _ _
  cases h : kget q.B k with
  | none =>
    rw [h] at e1 e2
    exact ⟨none, 0, ⟨0, []⟩, by rw [e1]; rfl, LB.nil, by rw [e2]; rfl, by rw [e1, e2]; rfl⟩
  | some z =>
    rw [h] at e1 e2
    have hr : LB q.hS z.2.l z.1 := q.rB _ (vget_mem h)
    obtain ⟨p, c, e⟩ := R_form hr.toR
    rw [e] at hr
    exact ⟨p, c, z.2, by rw [e1]; show lblV z = _; unfold lblV; rw [e], hr, by rw [e2]; rfl, by rw [e1, e2]; rfl⟩
theorem at_val {H0 : Hp} {m : Nat} {x : Mx} (q : MxIn H0 m x) (k : Int) : ∃ p c, (kget (vraw q.A) k).getD (.slice none 0 0) = .slice p ((kget x.at_ k).getD []).length c ∧ R q.hA ((kget x.at_ k).getD []) [.slice p ((kget x.at_ k).getD []).length c] := by
  have e1 : kget (vraw q.A) k = (kget q.A k).map Prod.fst := kget_vmap _ _ _
  have e2 : kget x.at_ k = (kget q.A k).map Prod.snd := by rw [q.aA]; exact kget_vmap _ _ _
  cases h : kget q.A k with
  | none =>
    rw [h] at e1 e2
    rw [e1, e2]
    exact ⟨none, 0, rfl, nil_R⟩
  | some z =>
    rw [h] at e1 e2
    rw [e1, e2]
    have hr := q.rA _ (vget_mem h)
    obtain ⟨p, c, e⟩ := R_form hr
    have e : z.1 = .slice p z.2.length c := e
    have hr : R q.hA z.2 [z.1] := hr
    rw [e] at hr
    exact ⟨p, c, e, hr⟩
end Go.Proofs.YthdbofgcckjopaaGreat
