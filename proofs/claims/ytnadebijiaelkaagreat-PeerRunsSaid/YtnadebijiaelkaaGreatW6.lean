/-
  Texts of one's own, joined: UP UQ UR U0 PV PW PX PY PT0 PTB PT7 PT8 PT9.
-/
import Derived.Test.YtnadebijiaelkaaGreatW5
import Derived.Test.YtnadebijiaelkaaGreatW3
import Derived.Lib.Small
set_option linter.unusedVariables false
set_option linter.unusedSimpArgs false
namespace Go.Proofs.YtnadebijiaelkaaGreat
open Go.Vg Go
def orI (x y : Int) : Int := if x = 0 then y else x
theorem orI_lt (a b c d : Int) : orI (Lib.compareInt a c) (Lib.compareInt b d) < 0 ↔ (a < c ∨ (a = c ∧ b < d)) := by
  unfold orI Lib.compareInt
  by_cases h1 : a < c
  · simp [h1]
  · by_cases h2 : c < a
    · simp [h1, h2]; omega
    · have h3 : a = c := by omega
      subst h3
      by_cases h4 : b < d
      · simp [h4]
      · by_cases h5 : d < b <;> simp [h4, h5]
def InLt (a b : Inp) : Prop := a.turn < b.turn ∨ (a.turn = b.turn ∧ a.player < b.player)
instance (a b : Inp) : Decidable (InLt a b) := by unfold InLt; exact inferInstance
def leI (a b : Inp) : Bool := !decide (InLt b a)
def SortedI (l : List Inp) : Prop := l.Pairwise fun a b => ¬ InLt b a
def CmdS (c : Cmd) : Prop := c.units.length ≤ 1000000
def InpS (i : Inp) : Prop := i.commands.length ≤ 1000000 ∧ ∀ c ∈ i.commands, CmdS c
def InpsS (l : List Inp) : Prop := l.length ≤ 1000000 ∧ ∀ i ∈ l, InpS i
instance (c : Cmd) : Decidable (CmdS c) := by unfold CmdS; exact inferInstance
instance (i : Inp) : Decidable (InpS i) := by unfold InpS; exact inferInstance
instance (l : List Inp) : Decidable (InpsS l) := by unfold InpsS; exact inferInstance
/-! ### Copies and equality of lists, element by element -/
section
variable {α : Type} [Inhabited α]
def copyBF (f : α → Option α) (l : List α) : Option (List α) :=
  Option.bind (α := List α) (loop (σ := List α × Int) (β := List α) (fun (l4, v6) =>
  if v6 < (l.length : Int) then
  if 0 ≤ v6 ∧ v6 < (l.length : Int) then
  Option.bind (f (gi l v6)) fun x18 =>
  if l4.length + 1 < 1099511627776 then
  if I64 (v6 + 1) then
  some (St.next ((l4 ++ ([x18] : List α)), (v6 + 1)))
  else none
  else none
  else none
  else
  some (St.done l4)) ([], 0)) fun v2 =>
  some v2
theorem copyBF_eq {f : α → Option α} {l : List α} (h : l.length < 1099511627775) (hf : ∀ x ∈ l, f x = some x) : copyBF f l = some l := by
  unfold copyBF
  refine Ok.eq (Ok.bind (R := fun x => x = l) (Ok.loop (fun z : List α × Int => 0 ≤ z.2 ∧ z.2 ≤ l.length ∧ z.1 = l.take z.2.toNat) (fun z => (l.length - z.2).toNat) ⟨by simp, by simp, by simp⟩ (by unfold FUEL; simp; omega) ?_) (fun x hx => Ok.ret hx))
  rintro ⟨m, i⟩ ⟨h0, h1, hq⟩
  try dsimp only at h0 h1 hq ⊢
  subst hq
  refine Ok.ite (fun hlt => ?_) (fun hlt => Ok.ret ?_)
  · refine Ok.gd ⟨h0, hlt⟩ ?_
    rw [hf _ (gi_mem ⟨h0, hlt⟩), bsome]
    refine Ok.gd (by rw [List.length_take]; omega) (Ok.gd (by unfold I64; omega) (Ok.ret ⟨⟨by show 0 ≤ i + 1; omega, by show i + 1 ≤ _; omega, ?_⟩, by show (l.length - (i + 1)).toNat < _; omega⟩))
    show _ = l.take (i + 1).toNat
    rw [take_nextV ⟨h0, hlt⟩]
  · have : i = l.length := by omega
    subst this
    simp
def eqBF (f : α → α → Option Bool) (a b : List α) : Option Bool :=
  if ¬ (a.length : Int) = (b.length : Int) then
  some false
  else
  Option.bind (α := Ex (Unit) (Bool)) (loop (σ := Int) (β := Ex (Unit) (Bool)) (fun v3 =>
  if v3 < (a.length : Int) then
  if 0 ≤ v3 ∧ v3 < (a.length : Int) then
  if 0 ≤ v3 ∧ v3 < (b.length : Int) then
  Option.bind (f (gi a v3) (gi b v3)) fun x24 =>
  if (!x24) = true then
  some (St.done (Ex.up false))
  else
  if I64 (v3 + 1) then
  some (St.next (v3 + 1))
  else none
  else none
  else none
  else
  some (St.done (Ex.go ()))) 0) fun x => x.then fun _ =>
  some true
theorem eqBF_eq [DecidableEq α] {f : α → α → Option Bool} {a b : List α} (ha : a.length ≤ 9223372036854775807) (hf : ∀ x ∈ a, ∀ y ∈ b, f x y = some (decide (x = y))) : eqBF f a b = some (decide (a = b)) := by
  unfold eqBF
  refine Ok.eq (Ok.ite (fun hn => Ok.ret (decide_eq_false (fun e => hn (by rw [e]))).symm) (fun hn => ?_))
  have hl : a.length = b.length := by omega
  refine Ok.bind (scanOk (a := 0) (n := a.length) (fun v => gi a v = gi b v) (fun r => r = false ∧ ¬ a = b) (by omega) (fun v v0 v1 _ => ?_) (fun v v0 v1 => by rw [if_neg (by omega)])) ?_
  · rw [if_pos v1]
    refine Ok.gd ⟨v0, v1⟩ (Ok.gd ⟨v0, by omega⟩ ?_)
    rw [hf _ (gi_mem ⟨v0, v1⟩) _ (gi_mem ⟨v0, by omega⟩), bsome]
    by_cases e : gi a v = gi b v
    · rw [decide_eq_true e, if_neg (by simp)]
      exact Ok.gd (by unfold I64; omega) (Ok.ret ⟨rfl, e⟩)
    · rw [decide_eq_false e, if_pos (by simp)]
      exact Ok.ret ⟨rfl, fun h => e (by rw [h])⟩
  · rintro (_ | _) hx
    · dsimp only [Ex.then]
      exact Ok.ret (decide_eq_true (ext_gi hl fun j j0 j1 => hx j j0 (by omega))).symm
    · dsimp only [Ex.then]
      exact Ok.ret (by rw [hx.1, decide_eq_false hx.2])
end
theorem bifb (b y : Bool) {β : Type} (k : Bool → Option β) : (Option.bind (if b = true then Option.bind (some y) fun x => some x else some false) k) = k (b && y) := by cases b <;> rfl
theorem bifp {p : Prop} [Decidable p] (y : Bool) {β : Type} (k : Bool → Option β) : (Option.bind (if p then Option.bind (some y) fun x => some x else some false) k) = k (decide p && y) := by
  by_cases h : p
  · rw [if_pos h, decide_eq_true h]; rfl
  · rw [if_neg h, decide_eq_false h]; rfl
theorem bifc (b y : Bool) {β : Type} (k : Bool → Option β) : (Option.bind (if b = true then some y else some false) k) = k (b && y) := by cases b <;> rfl
theorem bifq {p : Prop} [Decidable p] (y : Bool) {β : Type} (k : Bool → Option β) : (Option.bind (if p then some y else some false) k) = k (decide p && y) := by
  by_cases h : p
  · rw [if_pos h, decide_eq_true h]; rfl
  · rw [if_neg h, decide_eq_false h]; rfl
/-! ### Copies -/
theorem copyN_p {l : List Int} (h : l.length < 1099511627776) : throngref0_CopyNumbers l = some l := copyF_eq h
theorem eqN_p {a b : List Int} (h : a.length ≤ 9223372036854775807) : throngref0_EqNumbers a b = some (decide (a = b)) := eqF_eq h
theorem copyC_p {c : Cmd} (h : CmdS c) : throngref0_CopyCommand c = some c := by
  unfold throngref0_CopyCommand
  rw [copyN_p (by unfold CmdS at h; omega)]; rfl
theorem copyCs_p {l : List Cmd} (hl : l.length ≤ 1000000) (h : ∀ c ∈ l, CmdS c) : throngref0_CopyCommands l = some l := copyBF_eq (f := throngref0_CopyCommand) (by omega) fun c hc => copyC_p (h c hc)
theorem copyI_p {i : Inp} (h : InpS i) : throngref0_CopyInput i = some i := by
  unfold throngref0_CopyInput
  rw [copyCs_p h.1 h.2]; rfl
theorem copyIs_p {l : List Inp} (h : InpsS l) : throngref0_CopyInputs l = some l := copyBF_eq (f := throngref0_CopyInput) (by have := h.1; omega) fun c hc => copyI_p (h.2 c hc)
theorem ownC_p {c : Cmd} (h : CmdS c) : command_Own c = some c := by
  unfold command_Own slices_Clone_Int
  rw [if_pos (by unfold CmdS at h; omega)]; rfl
theorem ownCs_p {l : List Cmd} (hl : l.length ≤ 1000000) (h : ∀ c ∈ l, CmdS c) : command_OwnAll l = some l := copyBF_eq (f := command_Own) (by omega) fun c hc => ownC_p (h c hc)
theorem ownI_p {i : Inp} (h : InpS i) : turns_Own i = some i := by
  unfold turns_Own
  rw [ownCs_p h.1 h.2]; rfl
theorem ownIs_p {l : List Inp} (h : InpsS l) : turns_OwnAll l = some l := copyBF_eq (f := turns_Own) (by have := h.1; omega) fun c hc => ownI_p (h.2 c hc)
theorem eqC_p {a b : Cmd} (h : CmdS a) : throngref0_EqCommand a b = some (decide (a = b)) := by
  unfold throngref0_EqCommand
  rw [eqN_p (by unfold CmdS at h; omega), bifp, Option.some.injEq, decide_eq_decide]
  simp only [Bool.and_eq_true, decide_eq_true_eq]
  constructor
  · rintro ⟨⟨⟨⟨⟨⟨⟨⟨h1, h2⟩, h3⟩, h4⟩, h5⟩, h6⟩, h7⟩, h8⟩, h9⟩
    cases a; cases b; simp_all
  · rintro rfl; simp
theorem eqCs_p {a b : List Cmd} (hl : a.length ≤ 1000000) (h : ∀ c ∈ a, CmdS c) : throngref0_EqCommands a b = some (decide (a = b)) := eqBF_eq (f := throngref0_EqCommand) (by omega) fun x hx y _ => eqC_p (h x hx)
theorem eqI_p {a b : Inp} (h : InpS a) : throngref0_EqInput a b = some (decide (a = b)) := by
  unfold throngref0_EqInput
  rw [eqCs_p h.1 h.2, bifp, Option.some.injEq, Bool.eq_iff_iff, decide_eq_true_iff]
  simp only [Bool.and_eq_true, decide_eq_true_eq]
  constructor
  · rintro ⟨⟨h1, h2⟩, h3⟩
    cases a; cases b; simp_all
  · rintro rfl; simp
theorem eqIs_p {a b : List Inp} (h : InpsS a) : throngref0_EqInputs a b = some (decide (a = b)) := eqBF_eq (f := throngref0_EqInput) (by have := h.1; omega) fun x hx y _ => eqI_p (h.2 x hx)
/-! ### Which commands may be -/
def UnitsOk (l : List Int) : Prop := ((1 ≤ (l.length : Int)) ∧ ((l.length : Int) ≤ 64)) ∧ ∀ v : Int, 0 ≤ v → v < l.length → (1 ≤ gi l v ∧ gi l v ≤ 1099511627776) ∧ (0 < v → gi l (v - 1) < gi l v)
theorem units_b {l : List Int} (hl : l.length ≤ 1000000) : Bo (command_units l) (UnitsOk l) := by
  unfold command_units
  refine Ok.bind (scanOk (a := 0) (n := l.length) (fun v => (1 ≤ gi l v ∧ gi l v ≤ 1099511627776) ∧ (0 < v → gi l (v - 1) < gi l v)) (fun r => r = false ∧ ¬ UnitsOk l) (by omega) (fun v v0 v1 _ => ?_) (fun v v0 v1 => by rw [if_neg (by omega)])) ?_
  · rw [if_pos v1]
    refine Ok.gd ⟨v0, v1⟩ (Ok.gd (fun _ _ => by unfold I64; omega) (Ok.gd (fun _ h => ⟨by omega, by omega⟩) (Ok.ite (fun h => Ok.ret ⟨rfl, fun hu => ?_⟩) (fun h => Ok.gd (by unfold I64; omega) (Ok.ret ⟨rfl, ?_⟩)))))
    · have := hu.2 v v0 v1
      rcases h with h | h
      · omega
      · have := this.2 h.1; omega
    · refine ⟨by omega, fun hv => ?_⟩
      apply Classical.byContradiction; intro hc
      exact h (.inr ⟨hv, by omega⟩)
  · rintro (_ | _) hx
    · exact Bo.dec ⟨fun h => ⟨h, hx⟩, fun h => h.1⟩
    · exact Ok.ret ⟨fun e => (by rw [hx.1] at e; cases e), fun h => absurd h hx.2⟩
theorem ids_b {l : List Int} (hl : l.length ≤ 1000000) : Bo (throngref21_ids l) (UnitsOk l) := by
  have hr : Bo (throngref0_Rising l) (∀ v : Int, 1 ≤ v → v < l.length → gi l (v - 1) < gi l v) := by
    unfold throngref0_Rising
    refine scanBo (a := 1) (n := l.length) (fun v => gi l (v - 1) < gi l v) (by omega) (fun v v0 v1 _ => ?_) (fun v v0 v1 => by rw [if_neg (by omega)])
    rw [if_pos v1]
    exact Ok.gd ⟨by omega, v1⟩ (Ok.gd (by unfold I64; omega) (Ok.gd ⟨by omega, by omega⟩ (Ok.ite (fun h => Ok.ret ⟨rfl, by omega⟩) (fun h => Ok.gd (by unfold I64; omega) (Ok.ret ⟨rfl, by omega⟩)))))
  have hb : Bo (throngref0_Between l 1 1099511627776) (∀ v : Int, 0 ≤ v → v < l.length → 1 ≤ gi l v ∧ gi l v ≤ 1099511627776) := by
    unfold throngref0_Between
    refine scanBo (a := 0) (n := l.length) (fun v => 1 ≤ gi l v ∧ gi l v ≤ 1099511627776) (by omega) (fun v v0 v1 _ => ?_) (fun v v0 v1 => by rw [if_neg (by omega)])
    rw [if_pos v1]
    exact Ok.gd ⟨by omega, v1⟩ (Ok.gd (fun _ => ⟨by omega, by omega⟩) (Ok.ite (fun h => Ok.ret ⟨rfl, by omega⟩) (fun h => Ok.gd (by unfold I64; omega) (Ok.ret ⟨rfl, by omega⟩))))
  obtain ⟨r, er, hr⟩ := hr
  obtain ⟨b, eb, hb⟩ := hb
  unfold throngref21_ids
  rw [er, eb, bifp, bifb]
  refine Ok.ret ?_
  rw [Bool.and_eq_true, Bool.and_eq_true, decide_eq_true_eq, hr, hb]
  constructor
  · rintro ⟨⟨h1, h2⟩, h3⟩
    exact ⟨h1, fun v v0 v1 => ⟨h3 v v0 v1, fun hv => h2 v (by omega) v1⟩⟩
  · rintro ⟨h1, h2⟩
    exact ⟨⟨h1, fun v v0 v1 => (h2 v (by omega) v1).2 (by omega)⟩, fun v v0 v1 => (h2 v v0 v1).1⟩
theorem mayC_same {c : Cmd} (h : CmdS c) : ∃ b, command_May c = some b ∧ throngref21_Command c = some b := by
  obtain ⟨u, hu, hut⟩ := units_b h
  obtain ⟨d, hd, hdt⟩ := ids_b h
  have hud : u = d := by
    cases u <;> cases d <;> simp_all
  subst hud
  unfold command_May command_only throngref21_Command
  have e0 : ∀ a : Cmd, CmdS a → throngref0_EqCommand a c = some (decide (a = c)) := fun a ha => eqC_p ha
  have z0 : ∀ p s k n t w hh q, CmdS (⟨p, s, k, n, [], t, w, hh, q⟩ : Cmd) := fun _ _ _ _ _ _ _ _ => by show (0 : Nat) ≤ 1000000; omega
  have z1 : ∀ p s k n t w hh q, CmdS (⟨p, s, k, n, c.units, t, w, hh, q⟩ : Cmd) := fun _ _ _ _ _ _ _ _ => h
  have p0 : ∀ (p : Vec) (r : Int), throngref17_May p r = some (decide ((((((0 ≤ r) ∧ (r ≤ 262144)) ∧ ((-1099511627776) ≤ p.x)) ∧ (p.x ≤ 1099511627776)) ∧ ((-1099511627776) ≤ p.y)) ∧ (p.y ≤ 1099511627776))) := fun _ _ => rfl
  have fin : ∀ {x y : Bool}, (x = true ↔ y = true) → ∃ b, some x = some b ∧ some y = some b := fun {x y} h => ⟨x, rfl, by rw [Bool.eq_iff_iff.2 h]⟩
  have hu0 : ∀ l : List Int, ((([] : List Int).length : Int) = (l.length : Int)) ↔ [] = l := fun l => by
    cases l with
    | nil => simp
    | cons a l => simp; omega
  by_cases k1 : c.kind = 1
  · simp only [k1, if_true, reduceIte, kind_May, disc_Place, command_within, throngref0_Num, p0, throngref21_tile, throngref21_id, hu, hd, e0 _ (z0 _ _ _ _ _ _ _ _), e0 _ (z1 _ _ _ _ _ _ _ _), bsome, bifc, bifq]
    refine fin ?_
    cases c
    simp only [Cmd.mk.injEq, Bool.and_eq_true, decide_eq_true_eq, hu0] at k1 ⊢
    subst k1
    constructor
    · rintro ⟨⟨⟨⟨⟨⟨h1, h2⟩, h3⟩, h4⟩, h5⟩, h6⟩, h7⟩
      subst_vars
      simp only [true_and, and_true] at *
      first | omega | (simp_all; done) | (simp_all; omega)
    · intro h
      clear hu hd e0 z0 z1 p0 hut hdt fin
      simp only [eq_comm (a := (0 : Int)), eq_comm (a := (⟨0, 0⟩ : Vec)), eq_comm (a := ([] : List Int))] at h ⊢
      first | (simp_all; done) | (simp_all; omega)
  by_cases k2 : c.kind = 2
  · simp only [k2, if_true, reduceIte, kind_May, disc_Place, command_within, throngref0_Num, p0, throngref21_tile, throngref21_id, hu, hd, e0 _ (z0 _ _ _ _ _ _ _ _), e0 _ (z1 _ _ _ _ _ _ _ _), bsome, bifc, bifq]
    refine fin ?_
    cases c
    simp only [Cmd.mk.injEq, Bool.and_eq_true, decide_eq_true_eq, hu0] at k2 ⊢
    subst k2
    constructor
    · rintro ⟨⟨⟨⟨⟨⟨h1, h2⟩, h3⟩, h4⟩, h5⟩, h6⟩, h7⟩
      subst_vars
      simp only [true_and, and_true] at *
      first | omega | (simp_all; done) | (simp_all; omega)
    · intro h
      clear hu hd e0 z0 z1 p0 hut hdt fin
      simp only [eq_comm (a := (0 : Int)), eq_comm (a := (⟨0, 0⟩ : Vec)), eq_comm (a := ([] : List Int))] at h ⊢
      first | (simp_all; done) | (simp_all; omega)
  by_cases k3 : c.kind = 3
  · simp only [k3, if_true, reduceIte, kind_May, disc_Place, command_within, throngref0_Num, p0, throngref21_tile, throngref21_id, hu, hd, e0 _ (z0 _ _ _ _ _ _ _ _), e0 _ (z1 _ _ _ _ _ _ _ _), bsome, bifc, bifq]
    refine fin ?_
    cases c
    simp only [Cmd.mk.injEq, Bool.and_eq_true, decide_eq_true_eq, hu0] at k3 ⊢
    subst k3
    constructor
    · rintro ⟨⟨⟨⟨⟨⟨h1, h2⟩, h3⟩, h4⟩, h5⟩, h6⟩, h7⟩
      subst_vars
      simp only [true_and, and_true] at *
      first | omega | (simp_all; done) | (simp_all; omega)
    · intro h
      clear hu hd e0 z0 z1 p0 hut hdt fin
      simp only [eq_comm (a := (0 : Int)), eq_comm (a := (⟨0, 0⟩ : Vec)), eq_comm (a := ([] : List Int))] at h ⊢
      first | (simp_all; done) | (simp_all; omega)
  by_cases k4 : c.kind = 4
  · simp only [k4, if_true, reduceIte, kind_May, disc_Place, command_within, throngref0_Num, p0, throngref21_tile, throngref21_id, hu, hd, e0 _ (z0 _ _ _ _ _ _ _ _), e0 _ (z1 _ _ _ _ _ _ _ _), bsome, bifc, bifq]
    refine fin ?_
    cases c
    simp only [Cmd.mk.injEq, Bool.and_eq_true, decide_eq_true_eq, hu0] at k4 ⊢
    subst k4
    constructor
    · rintro ⟨⟨⟨⟨⟨⟨h1, h2⟩, h3⟩, h4⟩, h5⟩, h6⟩, h7⟩
      subst_vars
      simp only [true_and, and_true] at *
      first | omega | (simp_all; done) | (simp_all; omega)
    · intro h
      clear hu hd e0 z0 z1 p0 hut hdt fin
      simp only [eq_comm (a := (0 : Int)), eq_comm (a := (⟨0, 0⟩ : Vec)), eq_comm (a := ([] : List Int))] at h ⊢
      first | (simp_all; done) | (simp_all; omega)
  by_cases k5 : c.kind = 5
  · simp only [k5, if_true, reduceIte, kind_May, disc_Place, command_within, throngref0_Num, p0, throngref21_tile, throngref21_id, hu, hd, e0 _ (z0 _ _ _ _ _ _ _ _), e0 _ (z1 _ _ _ _ _ _ _ _), bsome, bifc, bifq]
    refine fin ?_
    cases c
    simp only [Cmd.mk.injEq, Bool.and_eq_true, decide_eq_true_eq, hu0] at k5 ⊢
    subst k5
    constructor
    · rintro ⟨⟨⟨⟨⟨⟨h1, h2⟩, h3⟩, h4⟩, h5⟩, h6⟩, h7⟩
      subst_vars
      simp only [true_and, and_true] at *
      first | omega | (simp_all; done) | (simp_all; omega)
    · intro h
      clear hu hd e0 z0 z1 p0 hut hdt fin
      simp only [eq_comm (a := (0 : Int)), eq_comm (a := (⟨0, 0⟩ : Vec)), eq_comm (a := ([] : List Int))] at h ⊢
      first | (simp_all; done) | (simp_all; omega)
  by_cases k6 : c.kind = 6
  · simp only [k6, if_true, reduceIte, kind_May, disc_Place, command_within, throngref0_Num, p0, throngref21_tile, throngref21_id, hu, hd, e0 _ (z0 _ _ _ _ _ _ _ _), e0 _ (z1 _ _ _ _ _ _ _ _), bsome, bifc, bifq]
    refine fin ?_
    cases c
    simp only [Cmd.mk.injEq, Bool.and_eq_true, decide_eq_true_eq, hu0] at k6 ⊢
    subst k6
    constructor
    · rintro ⟨⟨⟨⟨⟨⟨h1, h2⟩, h3⟩, h4⟩, h5⟩, h6⟩, h7⟩
      subst_vars
      simp only [true_and, and_true] at *
      first | omega | (simp_all; done) | (simp_all; omega)
    · intro h
      clear hu hd e0 z0 z1 p0 hut hdt fin
      simp only [eq_comm (a := (0 : Int)), eq_comm (a := (⟨0, 0⟩ : Vec)), eq_comm (a := ([] : List Int))] at h ⊢
      first | (simp_all; done) | (simp_all; omega)
  by_cases k7 : c.kind = 7
  · simp only [k7, if_true, reduceIte, kind_May, disc_Place, command_within, throngref0_Num, p0, throngref21_tile, throngref21_id, hu, hd, e0 _ (z0 _ _ _ _ _ _ _ _), e0 _ (z1 _ _ _ _ _ _ _ _), bsome, bifc, bifq]
    refine fin ?_
    cases c
    simp only [Cmd.mk.injEq, Bool.and_eq_true, decide_eq_true_eq, hu0] at k7 ⊢
    subst k7
    constructor
    · rintro ⟨⟨⟨⟨⟨⟨h1, h2⟩, h3⟩, h4⟩, h5⟩, h6⟩, h7⟩
      subst_vars
      simp only [true_and, and_true] at *
      first | omega | (simp_all; done) | (simp_all; omega)
    · intro h
      clear hu hd e0 z0 z1 p0 hut hdt fin
      simp only [eq_comm (a := (0 : Int)), eq_comm (a := (⟨0, 0⟩ : Vec)), eq_comm (a := ([] : List Int))] at h ⊢
      first | (simp_all; done) | (simp_all; omega)
  · simp only [k1, k2, k3, k4, k5, k6, k7, if_true, if_false, reduceIte, command_within, throngref0_Num, bsome, bifc, bifq]
    refine fin ?_
    simp
end Go.Proofs.YtnadebijiaelkaaGreat
set_option linter.unusedVariables false
set_option linter.unusedSimpArgs false
namespace Go.Proofs.YtnadebijiaelkaaGreat
open Go.Vg Go.Lib
def cmdOk (c : Cmd) : Bool := (command_May c).getD false
theorem mayC_p {c : Cmd} (h : CmdS c) : command_May c = some (cmdOk c) ∧ throngref21_Command c = some (cmdOk c) := by
  obtain ⟨b, e1, e2⟩ := mayC_same h
  unfold cmdOk
  rw [e1, e2]; exact ⟨rfl, rfl⟩
def SaidOk (p : Int) (l : List Cmd) : Prop := (l.length : Int) ≤ 64 ∧ ∀ v : Int, 0 ≤ v → v < l.length → (cmdOk (gi l v) = true ∧ (gi l v).player = p) ∧ (0 < v → (gi l (v - 1)).seq < (gi l v).seq)
theorem said_b {p : Int} {l : List Cmd} (hl : l.length ≤ 1000000) (hs : ∀ c ∈ l, CmdS c) : Bo (turns_Said p l) (SaidOk p l) := by
  unfold turns_Said
  refine Ok.bind (scanOk (a := 0) (n := l.length) (fun v => (cmdOk (gi l v) = true ∧ (gi l v).player = p) ∧ (0 < v → (gi l (v - 1)).seq < (gi l v).seq)) (fun r => r = false ∧ ¬ SaidOk p l) (by omega) (fun v v0 v1 _ => ?_) (fun v v0 v1 => by rw [if_neg (by omega)])) ?_
  · rw [if_pos v1]
    refine Ok.gd ⟨v0, v1⟩ ?_
    rw [(mayC_p (hs _ (gi_mem ⟨v0, v1⟩))).1, bsome]
    refine Ok.gd (fun _ _ => by unfold I64; omega) (Ok.gd (fun _ h => ⟨by omega, by omega⟩) (Ok.ite (fun h => Ok.ret ⟨rfl, fun hu => ?_⟩) (fun h => Ok.gd (by unfold I64; omega) (Ok.ret ⟨rfl, ?_⟩))))
    · have h2 := hu.2 v v0 v1
      rcases h with (h | h) | h
      · rw [h2.1.1] at h; simp at h
      · exact h h2.1.2
      · have := h2.2 h.1; omega
    · refine ⟨⟨?_, ?_⟩, fun hv => ?_⟩
      · cases hc : cmdOk (gi l v) with
        | true => rfl
        | false => exact absurd (.inl (.inl (by rw [hc]; rfl))) h
      · apply Classical.byContradiction; intro hc; exact h (.inl (.inr hc))
      · apply Classical.byContradiction; intro hc; exact h (.inr ⟨hv, by omega⟩)
  · rintro (_ | _) hx
    · exact Bo.dec ⟨fun h => ⟨h, hx⟩, fun h => h.1⟩
    · exact Ok.ret ⟨fun e => (by rw [hx.1] at e; cases e), fun h => absurd h hx.2⟩
def InpOk (i : Inp) : Prop := ((((0 ≤ i.turn) ∧ (i.turn ≤ 1099511627776)) ∧ (1 ≤ i.player)) ∧ (i.player ≤ 8)) ∧ SaidOk i.player i.commands
theorem mayI_b {i : Inp} (h : InpS i) : Bo (turns_May i) (InpOk i) := by
  obtain ⟨b, e, hb⟩ := said_b (p := i.player) h.1 h.2
  unfold turns_May
  rw [e, bifp]
  refine Ok.ret ?_
  rw [Bool.and_eq_true, decide_eq_true_eq, hb]; rfl
theorem mayR_b {i : Inp} (h : InpS i) : Bo (throngref27_May i) (InpOk i) := by
  unfold throngref27_May
  obtain ⟨p, l, hpl⟩ : ∃ p l, i.player = p ∧ i.commands = l := ⟨_, _, rfl, rfl⟩
  have hl := h.1
  have hs := h.2
  unfold InpOk
  rw [hpl.1, hpl.2] at *
  unfold throngref0_Num
  rw [bsome]
  refine Ok.ite (fun h => Ok.ret ⟨fun e => by (cases e), fun hu => ?_⟩) (fun h => ?_)
  · have h2 := hu.1
    have h3 := hu.2.1
    rcases h with ((h | h) | h) | h
    · simp at h; omega
    · omega
    · omega
    · omega
  · have hn : ((0 ≤ i.turn ∧ i.turn ≤ 1099511627776) ∧ 1 ≤ p) ∧ p ≤ 8 ∧ (l.length : Int) ≤ 64 := by simp at h; omega
    refine Ok.bind (scanOk (a := 0) (n := l.length) (fun v => (cmdOk (gi l v) = true ∧ (gi l v).player = p) ∧ (0 < v → (gi l (v - 1)).seq < (gi l v).seq)) (fun r => r = false ∧ ¬ SaidOk p l) (by omega) (fun v v0 v1 _ => ?_) (fun v v0 v1 => by rw [if_neg (by omega)])) ?_
    · rw [if_pos v1]
      refine Ok.gd ⟨v0, v1⟩ ?_
      rw [(mayC_p (hs _ (gi_mem ⟨v0, v1⟩))).2, bsome]
      refine Ok.gd (fun _ _ => by unfold I64; omega) (Ok.gd (fun _ h => ⟨by omega, by omega⟩) (Ok.ite (fun h => Ok.ret ⟨rfl, fun hu => ?_⟩) (fun h => Ok.gd (by unfold I64; omega) (Ok.ret ⟨rfl, ?_⟩))))
      · have h2 := hu.2 v v0 v1
        rcases h with (h | h) | h
        · rw [h2.1.1] at h; simp at h
        · exact h h2.1.2
        · have := h2.2 h.1; omega
      · refine ⟨⟨?_, ?_⟩, fun hv => ?_⟩
        · cases hc : cmdOk (gi l v) with
          | true => rfl
          | false => exact absurd (.inl (.inl (by rw [hc]; rfl))) h
        · apply Classical.byContradiction; intro hc; exact h (.inl (.inr hc))
        · apply Classical.byContradiction; intro hc; exact h (.inr ⟨hv, by omega⟩)
    · rintro (_ | _) hx
      · exact Ok.ret ⟨fun _ => ⟨⟨hn.1, hn.2.1⟩, hn.2.2, hx⟩, fun _ => rfl⟩
      · exact Ok.ret ⟨fun e => (by rw [hx.1] at e; cases e), fun h => absurd h.2 hx.2⟩
/-! ### The order -/
theorem compare_p (x y : Int) : cmp_Compare x y = some (Lib.compareInt x y) := by
  have hn : ∀ z : Int, cmp_isNaN z = some false := fun z => by unfold cmp_isNaN; simp
  unfold cmp_Compare Lib.compareInt
  rw [hn, hn, bsome, bsome, if_neg (by simp), if_neg (by simp)]
  by_cases h1 : x < y
  · rw [if_pos h1, if_pos h1]
  · rw [if_neg h1, if_neg h1]
    by_cases h2 : y < x
    · rw [if_pos h2, if_pos h2]
    · rw [if_neg h2, if_neg h2]
theorem or_p (x y : Int) : cmp_Or [x, y] = some (orI x y) := by
  unfold cmp_Or orI
  refine Ok.eq (Ok.bind (R := fun r : Ex Unit Int => r = if x = 0 then (if y = 0 then Ex.go () else Ex.up y) else Ex.up x) (Ok.loop (fun v : Int => (v = 0) ∨ (v = 1 ∧ x = 0) ∨ (v = 2 ∧ x = 0 ∧ y = 0)) (fun v => (2 - v).toNat) (.inl rfl) (by unfold FUEL; simp) ?_) ?_)
  · rintro v (rfl | ⟨rfl, hx⟩ | ⟨rfl, hx, hy⟩)
    · rw [if_pos (by simp), if_pos (by simp)]
      show Ok (if ¬ x = 0 then _ else _) _
      refine Ok.ite (fun h => Ok.ret ?_) (fun h => Ok.gd (by unfold I64; omega) (Ok.ret ⟨.inr (.inl ⟨rfl, by omega⟩), by decide⟩))
      show Ex.up x = _
      rw [if_neg h]
    · rw [if_pos (by simp), if_pos (by simp)]
      show Ok (if ¬ y = 0 then _ else _) _
      refine Ok.ite (fun h => Ok.ret ?_) (fun h => Ok.gd (by unfold I64; omega) (Ok.ret ⟨.inr (.inr ⟨rfl, hx, by omega⟩), by decide⟩))
      show Ex.up y = _
      rw [if_pos hx, if_neg h]
    · rw [if_neg (by simp)]
      refine Ok.ret ?_
      show Ex.go () = _
      rw [if_pos hx, if_pos hy]
  · rintro r rfl
    by_cases hx : x = 0
    · by_cases hy : y = 0
      · rw [if_pos hx, if_pos hy]; exact Ok.ret (by rw [if_pos hx, hy])
      · rw [if_pos hx, if_neg hy]; exact Ok.ret (by rw [if_pos hx])
    · rw [if_neg hx]; exact Ok.ret (by rw [if_neg hx])
def lessI (a b : Inp) : Int := orI (Lib.compareInt a.turn b.turn) (Lib.compareInt a.player b.player)
theorem less_p (a b : Inp) : turns_less a b = some (lessI a b) := by
  unfold turns_less
  rw [compare_p, compare_p, bsome, bsome, or_p]; rfl
theorem lessI_lt (a b : Inp) : lessI a b < 0 ↔ InLt a b := orI_lt _ _ _ _
theorem lessI_eq (a b : Inp) : lessI a b = 0 ↔ a.turn = b.turn ∧ a.player = b.player := by
  unfold lessI orI Lib.compareInt
  by_cases h1 : a.turn < b.turn
  · simp [h1]; omega
  · by_cases h2 : b.turn < a.turn
    · simp [h1, h2]; omega
    · have h3 : a.turn = b.turn := by omega
      by_cases h4 : a.player < b.player
      · simp [h1, h2, h4]; omega
      · by_cases h5 : b.player < a.player
        · simp [h1, h2, h4, h5]; omega
        · simp [h1, h2, h4, h5]; omega
theorem ahead_p (a b : Inp) : throngref27_ahead a b = some (decide (InLt a b)) := rfl
theorem InLt.trans {a b c : Inp} (h : InLt a b) (k : InLt b c) : InLt a c := by unfold InLt at *; omega
theorem InLt.key {a b : Inp} : (¬ InLt a b ∧ ¬ InLt b a) ↔ (a.turn = b.turn ∧ a.player = b.player) := by unfold InLt; omega
/-! ### Lists that rise -/
def ListOk (l : List Inp) : Prop := ∀ v : Int, 0 ≤ v → v < l.length → InpOk (gi l v) ∧ (0 < v → InLt (gi l (v - 1)) (gi l v))
theorem rising_b {l : List Inp} (h : InpsS l) : Bo (turns_Rising l) (ListOk l) := by
  have hl := h.1
  unfold turns_Rising
  refine scanBo (a := 0) (n := l.length) (fun v => InpOk (gi l v) ∧ (0 < v → InLt (gi l (v - 1)) (gi l v))) (by omega) (fun v v0 v1 _ => ?_) (fun v v0 v1 => by rw [if_neg (by omega)])
  rw [if_pos v1]
  obtain ⟨b, e, hb⟩ := mayI_b (h.2 _ (gi_mem ⟨v0, v1⟩))
  refine Ok.gd ⟨v0, v1⟩ (Ok.bindE e ?_)
  refine Ok.bind (R := fun r => r = true ↔ ¬ (InpOk (gi l v) ∧ (0 < v → InLt (gi l (v - 1)) (gi l v)))) (Ok.ite (fun hn => Ok.ret ⟨fun _ hc => ?_, fun _ => rfl⟩) (fun hn => ?_)) (fun r hr => ?_)
  · rw [hb.2 hc.1] at hn; simp at hn
  · have hin : InpOk (gi l v) := hb.1 (by simpa using hn)
    refine Ok.bind (R := fun r => r = true ↔ ¬ (InpOk (gi l v) ∧ (0 < v → InLt (gi l (v - 1)) (gi l v)))) (Ok.ite (fun hv => ?_) (fun hv => ?_)) (fun r hr => Ok.ret hr)
    · refine Ok.gd (by unfold I64; omega) (Ok.gd ⟨by omega, by omega⟩ (Ok.bindE (less_p _ _) (Ok.ret ?_)))
      rw [decide_eq_true_iff]
      have := lessI_lt (gi l (v - 1)) (gi l v)
      constructor
      · intro h1 h2; have := this.2 (h2.2 hv); omega
      · intro h1; apply Classical.byContradiction; intro h2; exact h1 ⟨hin, fun _ => this.1 (by omega)⟩
    · exact Ok.ret ⟨fun e => by (cases e), fun h => absurd ⟨hin, fun h2 => absurd h2 hv⟩ h⟩
  · refine Ok.ite (fun h1 => Ok.ret ⟨rfl, hr.1 h1⟩) (fun h1 => Ok.gd (by unfold I64; omega) (Ok.ret ⟨rfl, ?_⟩))
    apply Classical.byContradiction; intro h2; exact h1 (hr.2 h2)
theorem list_b {l : List Inp} (h : InpsS l) : Bo (throngref27_List l) (ListOk l) := by
  have hl := h.1
  unfold throngref27_List
  refine scanBo (a := 0) (n := l.length) (fun v => InpOk (gi l v) ∧ (0 < v → InLt (gi l (v - 1)) (gi l v))) (by omega) (fun v v0 v1 _ => ?_) (fun v v0 v1 => by rw [if_neg (by omega)])
  rw [if_pos v1]
  obtain ⟨b, e, hb⟩ := mayR_b (h.2 _ (gi_mem ⟨v0, v1⟩))
  refine Ok.gd ⟨v0, v1⟩ (Ok.bindE e ?_)
  refine Ok.bind (R := fun r => r = true ↔ ¬ (InpOk (gi l v) ∧ (0 < v → InLt (gi l (v - 1)) (gi l v)))) (Ok.ite (fun hn => Ok.ret ⟨fun _ hc => ?_, fun _ => rfl⟩) (fun hn => ?_)) (fun r hr => ?_)
  · rw [hb.2 hc.1] at hn; simp at hn
  · have hin : InpOk (gi l v) := hb.1 (by simpa using hn)
    refine Ok.bind (R := fun r => r = true ↔ ¬ (InpOk (gi l v) ∧ (0 < v → InLt (gi l (v - 1)) (gi l v)))) (Ok.ite (fun hv => ?_) (fun hv => ?_)) (fun r hr => Ok.ret hr)
    · refine Ok.gd (by unfold I64; omega) (Ok.gd ⟨by omega, by omega⟩ (Ok.gd ⟨v0, v1⟩ (Ok.bindE (ahead_p _ _) (Ok.ret ?_))))
      rw [Bool.not_eq_true', decide_eq_false_iff_not]
      constructor
      · intro h1 h2; exact h1 (h2.2 hv)
      · intro h1 h2; exact h1 ⟨hin, fun _ => h2⟩
    · exact Ok.ret ⟨fun e => by (cases e), fun h => absurd ⟨hin, fun h2 => absurd h2 hv⟩ h⟩
  · refine Ok.ite (fun h1 => Ok.ret ⟨rfl, hr.1 h1⟩) (fun h1 => Ok.gd (by unfold I64; omega) (Ok.ret ⟨rfl, ?_⟩))
    apply Classical.byContradiction; intro h2; exact h1 (hr.2 h2)
theorem ListOk.iff {l : List Inp} : ListOk l ↔ (∀ x ∈ l, InpOk x) ∧ l.Pairwise InLt := by
  constructor
  · intro h
    refine ⟨fun x hx => ?_, ?_⟩
    · obtain ⟨i, h0, h1, rfl⟩ := gi_mem2.1 hx
      exact (h i h0 h1).1
    · have key : ∀ d : Nat, ∀ i : Int, 0 ≤ i → i + 1 + d < l.length → InLt (gi l i) (gi l (i + 1 + d)) := by
        intro d
        induction d with
        | zero => intro i h0 h1; have := (h (i + 1) (by omega) (by omega)).2 (by omega); simpa using this
        | succ d ih =>
          intro i h0 h1
          have h2 := ih i h0 (by omega)
          have h3 := (h (i + 1 + (d + 1 : Nat)) (by omega) (by omega)).2 (by omega)
          rw [show i + 1 + ((d + 1 : Nat) : Int) - 1 = i + 1 + (d : Int) by omega] at h3
          exact h2.trans h3
      rw [List.pairwise_iff_getElem]
      intro i j hi hj hij
      have := key (j - i - 1) (i : Int) (by omega) (by omega)
      rw [show (i : Int) + 1 + ((j - i - 1 : Nat) : Int) = (j : Int) by omega] at this
      simpa [gi, List.getD, hi, hj] using this
  · rintro ⟨h1, h2⟩ v v0 v1
    refine ⟨h1 _ (gi_mem ⟨v0, v1⟩), fun hv => ?_⟩
    rw [List.pairwise_iff_getElem] at h2
    have hi : (v - 1).toNat < l.length := by omega
    have hj : v.toNat < l.length := by omega
    have := h2 _ _ hi hj (by omega)
    have e1 : gi l v = l[v.toNat] := by simp [gi, List.getD, hj]
    have e2 : gi l (v - 1) = l[(v - 1).toNat] := by unfold gi; rw [List.getD_eq_getElem?_getD, List.getElem?_eq_getElem hi]; rfl
    rw [e1, e2]; exact this
/-! ### One more -/
def Has (l : List Inp) (x : Inp) : Prop := ∃ y ∈ l, y.turn = x.turn ∧ y.player = x.player
/-- How many are ahead. -/
def cutI : List Inp → Inp → Nat
  | [], _ => 0
  | y :: l, x => if InLt y x then cutI l x + 1 else 0
theorem cut_le (x : Inp) : ∀ l : List Inp, cutI l x ≤ l.length
  | [] => Nat.le_refl _
  | y :: l => by
    unfold cutI
    have := cut_le x l
    split <;> simp <;> omega
theorem cut_ltN (x : Inp) : ∀ (l : List Inp) (j : Nat), j < cutI l x → InLt (l.getD j default) x
  | [], j, h => by simp [cutI] at h
  | y :: l, j, h => by
    unfold cutI at h
    split at h
    · rename_i hy
      cases j with
      | zero => exact hy
      | succ j => exact cut_ltN x l j (by omega)
    · omega
theorem cut_atN (x : Inp) : ∀ (l : List Inp), cutI l x < l.length → ¬ InLt (l.getD (cutI l x) default) x
  | [], h => by simp at h
  | y :: l, h => by
    unfold cutI at h ⊢
    by_cases hy : InLt y x
    · rw [if_pos hy] at h ⊢
      exact cut_atN x l (by simpa using h)
    · rw [if_neg hy]; exact hy
theorem cut_lt {l : List Inp} {x : Inp} {v : Int} (v0 : 0 ≤ v) (v1 : v < cutI l x) : InLt (gi l v) x := cut_ltN x l v.toNat (by omega)
theorem cut_at {l : List Inp} {x : Inp} (h : cutI l x < l.length) : ¬ InLt (gi l (cutI l x)) x := by
  have := cut_atN x l h
  unfold gi
  rwa [Int.toNat_natCast]
theorem ListOk.lt {l : List Inp} (h : l.Pairwise InLt) {i j : Int} (h0 : 0 ≤ i) (hij : i < j) (hj : j < l.length) : InLt (gi l i) (gi l j) := by
  rw [List.pairwise_iff_getElem] at h
  have hi' : i.toNat < l.length := by omega
  have hj' : j.toNat < l.length := by omega
  have := h _ _ hi' hj' (by omega)
  have e1 : gi l j = l[j.toNat] := by unfold gi; rw [List.getD_eq_getElem?_getD, List.getElem?_eq_getElem hj']; rfl
  have e2 : gi l i = l[i.toNat] := by unfold gi; rw [List.getD_eq_getElem?_getD, List.getElem?_eq_getElem hi']; rfl
  rw [e1, e2]; exact this
/-- A place ahead of which all are ahead, at which one is not: it is the one. -/
theorem cut_uniq {l : List Inp} {x : Inp} (hp : l.Pairwise InLt) {v : Int} (v0 : 0 ≤ v) (v1 : v ≤ l.length) (ha : ∀ u, 0 ≤ u → u < v → InLt (gi l u) x) (hb : v < l.length → ¬ InLt (gi l v) x) : v = cutI l x := by
  have h1 := cut_le x l
  rcases Int.lt_trichotomy v (cutI l x : Int) with h | h | h
  · exact absurd (cut_lt v0 h) (hb (by omega))
  · exact h
  · exact absurd (ha _ (by omega) h) (cut_at (by omega))
theorem has_iff {l : List Inp} {x : Inp} (hp : l.Pairwise InLt) : Has l x ↔ (cutI l x < l.length ∧ ¬ InLt x (gi l (cutI l x))) := by
  constructor
  · rintro ⟨y, hy, hk⟩
    obtain ⟨i, h0, h1, rfl⟩ := gi_mem2.1 hy
    have hn := InLt.key.2 hk
    have : i = cutI l x := cut_uniq hp h0 (by omega) (fun u u0 u1 => by have := ListOk.lt hp u0 u1 h1; unfold InLt at *; omega) (fun _ => hn.1)
    rw [← this]
    exact ⟨by omega, hn.2⟩
  · rintro ⟨h1, h2⟩
    exact ⟨_, gi_mem ⟨by omega, by omega⟩, InLt.key.1 ⟨cut_at h1, h2⟩⟩
def insI (l : List Inp) (x : Inp) : List Inp := l.take (cutI l x) ++ x :: l.drop (cutI l x)
theorem insI_len (l : List Inp) (x : Inp) : (insI l x).length = l.length + 1 := by
  have := cut_le x l
  unfold insI
  simp; omega
theorem insI_perm (l : List Inp) (x : Inp) : (insI l x).Perm (x :: l) := by
  unfold insI
  refine List.perm_middle.trans ?_
  rw [List.take_append_drop]
theorem insI_pair {l : List Inp} {x : Inp} (hp : l.Pairwise InLt) (hn : ¬ Has l x) : (insI l x).Pairwise InLt := by
  have hc := cut_le x l
  have h1 : ∀ y ∈ l.take (cutI l x), InLt y x := fun y hy => by
    obtain ⟨i, h0, hi, rfl⟩ := gi_mem2.1 hy
    rw [List.length_take] at hi
    have : gi (l.take (cutI l x)) i = gi l i := by
      unfold gi
      rw [List.getD_eq_getElem?_getD, List.getD_eq_getElem?_getD, List.getElem?_take_of_lt (by omega)]
    rw [this]
    exact cut_lt h0 (by omega)
  have h2 : ∀ y ∈ l.drop (cutI l x), InLt x y := fun y hy => by
    obtain ⟨i, h0, hi, rfl⟩ := gi_mem2.1 hy
    rw [List.length_drop] at hi
    have e : gi (l.drop (cutI l x)) i = gi l (cutI l x + i) := by
      unfold gi
      rw [List.getD_eq_getElem?_getD, List.getD_eq_getElem?_getD, List.getElem?_drop, show ((cutI l x : Int) + i).toNat = cutI l x + i.toNat by omega]
    rw [e]
    have hlt : cutI l x < l.length := by omega
    have h3 : InLt x (gi l (cutI l x)) := Classical.byContradiction fun h => hn ((has_iff hp).2 ⟨hlt, h⟩)
    by_cases hi0 : i = 0
    · subst hi0; simpa using h3
    · exact h3.trans (ListOk.lt hp (by omega) (by omega) (by omega))
  unfold insI
  rw [List.pairwise_append, List.pairwise_cons]
  refine ⟨hp.sublist (List.take_sublist _ _), ⟨h2, hp.sublist (List.drop_sublist _ _)⟩, fun a ha b hb => ?_⟩
  rcases List.mem_cons.1 hb with rfl | hb
  · exact h1 a ha
  · exact (h1 a ha).trans (h2 b hb)
theorem InpsS.take {l : List Inp} (h : InpsS l) (n : Nat) : InpsS (l.take n) := ⟨by rw [List.length_take]; have := h.1; omega, fun y hy => h.2 y (List.mem_of_mem_take hy)⟩
theorem InpsS.drop {l : List Inp} (h : InpsS l) (n : Nat) : InpsS (l.drop n) := ⟨by rw [List.length_drop]; have := h.1; omega, fun y hy => h.2 y (List.mem_of_mem_drop hy)⟩
/-- The page's Put. -/
theorem putR_p {l : List Inp} {x : Inp} (h : InpsS l) (hx : InpS x) (hp : l.Pairwise InLt) : (Has l x → throngref27_Put l x = some ([], 12)) ∧ (¬ Has l x → throngref27_Put l x = some (insI l x, 0)) := by
  have hl := h.1
  have hc := cut_le x l
  have hloop : Ok (throngref27_Put l x) fun r => (Has l x → r = ([], 12)) ∧ (¬ Has l x → r = (insI l x, 0)) := by
    unfold throngref27_Put
    refine Ok.bind (R := fun v : Int => v = cutI l x) (Ok.loop (fun v : Int => (0 ≤ v ∧ v ≤ l.length) ∧ ∀ u, 0 ≤ u → u < v → InLt (gi l u) x) (fun v => (l.length - v).toNat) ⟨by simp, fun u u0 u1 => by omega⟩ (by unfold FUEL; simp; omega) ?_) ?_
    · rintro v ⟨⟨v0, v1⟩, hv⟩
      by_cases hlt : v < l.length
      · refine Ok.bindE (x := decide (InLt (gi l v) x)) (by rw [if_pos hlt, if_pos ⟨v0, hlt⟩]; rfl) (Ok.ite (fun hd => ?_) (fun hd => Ok.ret ?_))
        · refine Ok.gd (by unfold I64; omega) (Ok.ret ⟨⟨⟨by omega, by omega⟩, fun u u0 u1 => ?_⟩, by omega⟩)
          by_cases e : u = v
          · subst e; simpa using hd
          · exact hv u u0 (by omega)
        · exact cut_uniq hp v0 (by omega) hv (fun _ => by simpa using hd)
      · refine Ok.bindE (x := false) (by rw [if_neg hlt]) ?_
        rw [if_neg (by simp)]
        exact Ok.ret (cut_uniq hp v0 (by omega) hv (fun h => absurd h hlt))
    · rintro v rfl
      by_cases hh : Has l x
      · have h2 := (has_iff hp).1 hh
        refine Ok.bindE (x := true) (by rw [if_pos (by omega), if_pos (by omega), ahead_p, bsome, decide_eq_false h2.2]; rfl) ?_
        rw [if_pos rfl]
        exact Ok.ret ⟨fun _ => rfl, fun hn => absurd hh hn⟩
      · have h2 : ¬ (cutI l x < l.length ∧ ¬ InLt x (gi l (cutI l x))) := fun h => hh ((has_iff hp).2 h)
        refine Ok.bindE (x := false) ?_ ?_
        · by_cases hlt : (cutI l x : Int) < l.length
          · rw [if_pos hlt, if_pos (by omega), ahead_p, bsome, decide_eq_true (Classical.byContradiction fun h => h2 ⟨by omega, h⟩)]; rfl
          · rw [if_neg hlt]
        · rw [if_neg (by simp)]
          refine Ok.gd (by omega) ?_
          rw [Int.toNat_natCast, copyIs_p (h.take _), bsome, copyI_p hx, bsome]
          refine Ok.gd (by rw [List.length_take]; omega) (Ok.gd (by omega) ?_)
          rw [copyIs_p (h.drop _), bsome]
          refine Ok.gd (by simp; omega) (Ok.ret ⟨fun h => absurd h hh, fun _ => ?_⟩)
          unfold insI
          rw [List.append_assoc]; rfl
  obtain ⟨r, e, h1, h2⟩ := hloop
  exact ⟨fun h => by rw [e, h1 h], fun h => by rw [e, h2 h]⟩
theorem search_p {l : List Inp} {x : Inp} (hl : l.length ≤ 1000000) (hp : l.Pairwise InLt) : Ok (slices_BinarySearchFunc l x (fun (y0, y1) => turns_less y0 y1)) fun r => r.1 = cutI l x ∧ (r.2 = true ↔ Has l x) := by
  have hc := cut_le x l
  unfold slices_BinarySearchFunc
  refine Ok.bind (R := fun v : Int => v = cutI l x) (Ok.loop (fun z : Int × Int => (0 ≤ z.1 ∧ z.1 ≤ z.2 ∧ z.2 ≤ l.length) ∧ z.1 ≤ cutI l x ∧ (cutI l x : Int) ≤ z.2) (fun z => (z.2 - z.1).toNat) ⟨by simp, by simp, by simpa using hc⟩ (by unfold FUEL; simp; omega) ?_) ?_
  · rintro ⟨i, j⟩ ⟨⟨h0, h1, h2⟩, h3, h4⟩
    dsimp only at h0 h1 h2 h3 h4 ⊢
    refine Ok.ite (fun hlt => ?_) (fun hlt => Ok.ret (by show i = _; omega))
    obtain ⟨m, hm⟩ : ∃ m, m = (i + j) % 18446744073709551616 / 2 := ⟨_, rfl⟩
    have hm2 : m = (i + j) / 2 := by rw [hm, Int.emod_eq_of_lt (by omega) (by omega)]
    rw [← hm]
    refine Ok.gd (by unfold I64; omega) (Ok.gd (Int.emod_nonneg _ (by decide)) (Ok.gd (by unfold I64; omega) (Ok.gd (by omega) ?_)))
    show Ok (Option.bind (turns_less (gi l m) x) _) _
    rw [less_p, bsome]
    refine Ok.ite (fun hs => ?_) (fun hs => ?_)
    · have hs := (lessI_lt _ _).1 hs
      refine Ok.gd (by unfold I64; omega) (Ok.ret ⟨⟨⟨by show 0 ≤ m + 1; omega, by show m + 1 ≤ j; omega, h2⟩, ?_, h4⟩, by show (j - (m + 1)).toNat < (j - i).toNat; omega⟩)
      show m + 1 ≤ _
      apply Classical.byContradiction; intro hn
      have hcm : (cutI l x : Int) ≤ m := by omega
      refine cut_at (l := l) (x := x) (by omega) ?_
      by_cases e : (cutI l x : Int) = m
      · rw [e]; exact hs
      · exact (ListOk.lt hp (by omega) (by omega : (cutI l x : Int) < m) (by omega)).trans hs
    · refine Ok.ret ⟨⟨⟨h0, by show i ≤ m; omega, by show m ≤ _; omega⟩, h3, ?_⟩, by show (m - i).toNat < (j - i).toNat; omega⟩
      show (cutI l x : Int) ≤ m
      apply Classical.byContradiction; intro hn
      exact hs ((lessI_lt _ _).2 (cut_lt (by omega) (by omega)))
  · rintro v rfl
    by_cases hlt : (cutI l x : Int) < l.length
    · rw [if_pos hlt, if_pos (by omega)]
      show Ok (Option.bind (Option.bind (turns_less (gi l (cutI l x)) x) _) _) _
      rw [less_p, bsome, bsome]
      refine Ok.ret ⟨rfl, ?_⟩
      show decide (lessI (gi l (cutI l x)) x = 0) = true ↔ _
      rw [decide_eq_true_iff, lessI_eq, has_iff hp, ← InLt.key]
      exact ⟨fun h => ⟨by omega, h.2⟩, fun h => ⟨cut_at h.1, h.2⟩⟩
    · rw [if_neg hlt, bsome]
      refine Ok.ret ⟨rfl, ?_⟩
      show false = true ↔ _
      rw [has_iff hp]
      exact ⟨fun h => by (cases h), fun h => absurd h.1 (by omega)⟩
/-- The program's In. -/
theorem in_p {l : List Inp} {x : Inp} (h : InpsS l) (hx : InpS x) (hp : l.Pairwise InLt) : (Has l x → turns_In l x = some ([], false)) ∧ (¬ Has l x → turns_In l x = some (insI l x, true)) := by
  have hl := h.1
  have hc := cut_le x l
  obtain ⟨⟨k, b⟩, e, h1, h2⟩ := search_p (x := x) hl hp
  dsimp only at h1 h2
  subst h1
  unfold turns_In
  rw [e, bsome]
  dsimp only
  constructor
  · intro hh; rw [if_pos (h2.2 hh)]
  · intro hh
    rw [if_neg (fun e => hh (h2.1 e)), ownIs_p h, bsome, ownI_p hx, bsome]
    unfold slices_InsertI
    rw [if_pos ⟨rfl, by omega, by omega⟩, bsome, Int.toNat_natCast]
    unfold insI
    rw [List.append_assoc]; rfl
/-! ### Those of a turn -/
theorem part_p {l : List Inp} (h : InpsS l) (t : Int) : turns_Part l t = some (l.filter fun i => decide (i.turn = t), l.filter fun i => !decide (i.turn = t)) := by
  have hl := h.1
  unfold turns_Part
  refine Ok.eq (Ok.bind (R := fun x => x = (l.filter (fun i => decide (i.turn = t)), l.filter fun i => !decide (i.turn = t))) (Ok.loop (fun z : List Inp × List Inp × Int => (0 ≤ z.2.2 ∧ z.2.2 ≤ l.length) ∧ z.1 = (l.take z.2.2.toNat).filter (fun i => decide (i.turn = t)) ∧ z.2.1 = (l.take z.2.2.toNat).filter fun i => !decide (i.turn = t)) (fun z => (l.length - z.2.2).toNat) ⟨by simp, by simp, by simp⟩ (by unfold FUEL; simp; omega) ?_) (fun x hx => Ok.ret hx))
  rintro ⟨a, b, v⟩ ⟨⟨v0, v1⟩, ha, hb⟩
  dsimp only at v0 v1 ha hb ⊢
  have ha' : a.length ≤ 1000000 := by rw [ha]; exact Nat.le_trans (List.length_filter_le _ _) (by rw [List.length_take]; omega)
  have hb' : b.length ≤ 1000000 := by rw [hb]; exact Nat.le_trans (List.length_filter_le _ _) (by rw [List.length_take]; omega)
  refine Ok.ite (fun hlt => Ok.gd ⟨v0, hlt⟩ ?_) (fun hlt => Ok.ret ?_)
  · have hnx := take_nextV (s := l) (i := v) ⟨v0, hlt⟩
    rw [ownI_p (h.2 _ (gi_mem ⟨v0, hlt⟩))]
    refine Ok.ite (fun ht => ?_) (fun ht => ?_)
    · rw [bsome]
      refine Ok.gd (by omega) (Ok.gd (by unfold I64; omega) (Ok.ret ⟨⟨⟨by show 0 ≤ v + 1; omega, by show v + 1 ≤ _; omega⟩, ?_, ?_⟩, by show (l.length - (v + 1)).toNat < _; omega⟩))
      · show _ = (l.take (v + 1).toNat).filter _
        rw [hnx, List.filter_append, ← ha]; simp [ht]
      · show _ = (l.take (v + 1).toNat).filter _
        rw [hnx, List.filter_append, ← hb]; simp [ht]
    · rw [bsome]
      refine Ok.gd (by omega) (Ok.gd (by unfold I64; omega) (Ok.ret ⟨⟨⟨by show 0 ≤ v + 1; omega, by show v + 1 ≤ _; omega⟩, ?_, ?_⟩, by show (l.length - (v + 1)).toNat < _; omega⟩))
      · show _ = (l.take (v + 1).toNat).filter _
        rw [hnx, List.filter_append, ← ha]; simp [ht]
      · show _ = (l.take (v + 1).toNat).filter _
        rw [hnx, List.filter_append, ← hb]; simp [ht]
  · have : v = l.length := by omega
    subst this
    rw [ha, hb]; simp
theorem takeR_p {l : List Inp} (h : InpsS l) (t : Int) : throngref27_Take l t = some (l.filter (fun i => decide (i.turn = t)), l.filter fun i => !decide (i.turn = t)) := by
  have hl := h.1
  unfold throngref27_Take
  refine Ok.eq (Ok.bind (R := fun x => x = (l.filter (fun i => decide (i.turn = t)), l.filter fun i => !decide (i.turn = t))) (Ok.loop (fun z : List Inp × List Inp × Int => (0 ≤ z.2.2 ∧ z.2.2 ≤ l.length) ∧ z.1 = (l.take z.2.2.toNat).filter (fun i => decide (i.turn = t)) ∧ z.2.1 = (l.take z.2.2.toNat).filter fun i => !decide (i.turn = t)) (fun z => (l.length - z.2.2).toNat) ⟨by simp, by simp, by simp⟩ (by unfold FUEL; simp; omega) ?_) (fun x hx => Ok.ret hx))
  rintro ⟨a, b, v⟩ ⟨⟨v0, v1⟩, ha, hb⟩
  dsimp only at v0 v1 ha hb ⊢
  have ha' : a.length ≤ 1000000 := by rw [ha]; exact Nat.le_trans (List.length_filter_le _ _) (by rw [List.length_take]; omega)
  have hb' : b.length ≤ 1000000 := by rw [hb]; exact Nat.le_trans (List.length_filter_le _ _) (by rw [List.length_take]; omega)
  refine Ok.ite (fun hlt => Ok.gd ⟨v0, hlt⟩ ?_) (fun hlt => Ok.ret ?_)
  · have hnx := take_nextV (s := l) (i := v) ⟨v0, hlt⟩
    rw [copyI_p (h.2 _ (gi_mem ⟨v0, hlt⟩))]
    refine Ok.ite (fun ht => Ok.gd ⟨v0, hlt⟩ ?_) (fun ht => Ok.gd ⟨v0, hlt⟩ ?_)
    · rw [bsome]
      refine Ok.gd (by omega) (Ok.gd (by unfold I64; omega) (Ok.ret ⟨⟨⟨by show 0 ≤ v + 1; omega, by show v + 1 ≤ _; omega⟩, ?_, ?_⟩, by show (l.length - (v + 1)).toNat < _; omega⟩))
      · show _ = (l.take (v + 1).toNat).filter _
        rw [hnx, List.filter_append, ← ha]; simp [ht]
      · show _ = (l.take (v + 1).toNat).filter _
        rw [hnx, List.filter_append, ← hb]; simp [ht]
    · rw [bsome]
      refine Ok.gd (by omega) (Ok.gd (by unfold I64; omega) (Ok.ret ⟨⟨⟨by show 0 ≤ v + 1; omega, by show v + 1 ≤ _; omega⟩, ?_, ?_⟩, by show (l.length - (v + 1)).toNat < _; omega⟩))
      · show _ = (l.take (v + 1).toNat).filter _
        rw [hnx, List.filter_append, ← ha]; simp [ht]
      · show _ = (l.take (v + 1).toNat).filter _
        rw [hnx, List.filter_append, ← hb]; simp [ht]
  · have : v = l.length := by omega
    subst this
    rw [ha, hb]; simp
end Go.Proofs.YtnadebijiaelkaaGreat
set_option linter.unusedVariables false
set_option linter.unusedSimpArgs false
namespace Go.Proofs.YtnadebijiaelkaaGreat
open Go.Vg Go.Lib
theorem InpsS.perm {l l' : List Inp} (h : InpsS l) (hp : l'.Perm l) : InpsS l' := ⟨by rw [hp.length_eq]; exact h.1, fun x hx => h.2 x (hp.mem_iff.1 hx)⟩
/-- No two of one turn and player. -/
def KD (l : List Inp) : Prop := l.Pairwise fun a b => ¬ (a.turn = b.turn ∧ a.player = b.player)
theorem KD.perm {l l' : List Inp} (h : l.Perm l') : KD l ↔ KD l' := List.Perm.pairwise_iff (fun {x y} hxy hc => hxy ⟨hc.1.symm, hc.2.symm⟩) h
theorem KD.of {l : List Inp} (h : l.Pairwise InLt) : KD l := h.imp fun {a b} hab hc => by unfold InLt at hab; omega
theorem all_p {l : List Inp} (h : InpsS l) : turns_All l = some (l.flatMap (·.commands)) := by
  have hl := h.1
  unfold turns_All
  refine Ok.eq (Ok.bind (R := fun x => x = l.flatMap (·.commands)) (Ok.loop (fun z : List Cmd × Int => (0 ≤ z.2 ∧ z.2 ≤ l.length) ∧ z.1 = (l.take z.2.toNat).flatMap (·.commands) ∧ (z.1.length : Int) ≤ 1000000 * z.2) (fun z => (l.length - z.2).toNat) ⟨by simp, by simp, by simp⟩ (by unfold FUEL; simp; omega) ?_) (fun x hx => Ok.ret hx))
  rintro ⟨a, v⟩ ⟨⟨v0, v1⟩, ha, hb⟩
  dsimp only at v0 v1 ha hb ⊢
  refine Ok.ite (fun hlt => Ok.gd ⟨v0, hlt⟩ ?_) (fun hlt => Ok.ret ?_)
  · have hI := h.2 _ (gi_mem ⟨v0, hlt⟩)
    have hI1 := hI.1
    rw [ownCs_p hI.1 hI.2, bsome]
    refine Ok.gd (by omega) (Ok.gd (by unfold I64; omega) (Ok.ret ⟨⟨⟨by show 0 ≤ v + 1; omega, by show v + 1 ≤ _; omega⟩, ?_, ?_⟩, by show (l.length - (v + 1)).toNat < _; omega⟩))
    · show _ = (l.take (v + 1).toNat).flatMap _
      rw [take_nextV ⟨v0, hlt⟩, List.flatMap_append, ← ha]; simp
    · show ((a ++ _).length : Int) ≤ 1000000 * (v + 1)
      rw [List.length_append]; omega
  · have : v = l.length := by omega
    subst this
    rw [ha]; simp
/-- What may be merged. -/
def MOk (l : List Inp) : Prop := (∀ x ∈ l, InpOk x ∧ ∀ y ∈ l, x.turn = y.turn) ∧ KD l
theorem MOk.perm {l l' : List Inp} (h : l.Perm l') : MOk l ↔ MOk l' := by
  unfold MOk
  rw [KD.perm h]
  constructor
  · rintro ⟨h1, h2⟩; exact ⟨fun x hx => ⟨(h1 x (h.mem_iff.2 hx)).1, fun y hy => (h1 x (h.mem_iff.2 hx)).2 y (h.mem_iff.2 hy)⟩, h2⟩
  · rintro ⟨h1, h2⟩; exact ⟨fun x hx => ⟨(h1 x (h.mem_iff.1 hx)).1, fun y hy => (h1 x (h.mem_iff.1 hx)).2 y (h.mem_iff.1 hy)⟩, h2⟩
theorem mergeR_p {l : List Inp} (h : InpsS l) (hl8 : l.length < 1000000) : Ok (throngref27_Merge l) fun r => (¬ MOk l → r = ([], false)) ∧ (MOk l → ∃ s : List Inp, s.Perm l ∧ s.Pairwise InLt ∧ r = (s.flatMap (·.commands), true)) := by
  have hl := h.1
  unfold throngref27_Merge
  refine Ok.bind (R := fun x : Ex (List Inp) (List Cmd × Bool) => match x with | .up r => r = ([], false) ∧ ¬ MOk l | .go s => s.Perm l ∧ s.Pairwise InLt ∧ MOk l)
    (Ok.loop (fun z : List Inp × Int => (0 ≤ z.2 ∧ z.2 ≤ l.length) ∧ z.1.Perm (l.take z.2.toNat) ∧ z.1.Pairwise InLt ∧ ∀ x ∈ z.1, InpOk x ∧ x.turn = (gi l 0).turn) (fun z => (l.length - z.2).toNat) ⟨by simp, by simp, by simp, fun x hx => by simp at hx⟩ (by unfold FUEL; simp; omega) ?_) ?_
  · rintro ⟨s, v⟩ ⟨⟨v0, v1⟩, hp, hs, hx⟩
    dsimp only at v0 v1 hp hs hx ⊢
    refine Ok.ite (fun hlt => ?_) (fun hlt => Ok.ret ?_)
    · have hm := gi_mem (xs := l) (j := v) ⟨v0, hlt⟩
      have hm0 := gi_mem (xs := l) (j := 0) ⟨by omega, by omega⟩
      obtain ⟨b, e, hb⟩ := mayR_b (h.2 _ hm)
      refine Ok.gd ⟨v0, hlt⟩ (Ok.bindE e (Ok.gd (fun _ => ⟨v0, hlt⟩) (Ok.gd (fun _ => by omega) (Ok.ite (fun hc => Ok.ret ⟨rfl, fun hmo => ?_⟩) (fun hc => Ok.gd ⟨v0, hlt⟩ ?_)))))
      · rcases hc with hc | hc
        · rw [hb.2 (hmo.1 _ hm).1] at hc; simp at hc
        · exact hc ((hmo.1 _ hm).2 _ hm0)
      · have hin : InpOk (gi l v) := hb.1 (by
          cases hbb : b with
          | true => rfl
          | false => exact absurd (.inl (by rw [hbb]; rfl)) hc)
        have htu : (gi l v).turn = (gi l 0).turn := Classical.byContradiction fun h => hc (.inr h)
        have hSs : InpsS s := (h.take v.toNat).perm hp
        have hsl := hp.length_eq
        rw [List.length_take] at hsl
        by_cases hh : Has s (gi l v)
        · rw [(putR_p hSs (h.2 _ hm) hs).1 hh, bsome]
          refine Ok.ite (fun _ => Ok.ret ⟨rfl, fun hmo => ?_⟩) (fun hn => absurd (show ¬ (12 : Int) = 0 by decide) hn)
          obtain ⟨y, hy, hk⟩ := hh
          have hyt := hp.mem_iff.1 hy
          obtain ⟨j, j0, j1, rfl⟩ := gi_mem2.1 hyt
          rw [List.length_take] at j1
          have ej : gi (l.take v.toNat) j = gi l j := by
            unfold gi
            rw [List.getD_eq_getElem?_getD, List.getD_eq_getElem?_getD, List.getElem?_take_of_lt (by omega)]
          rw [ej] at hk
          have hkd := hmo.2
          unfold KD at hkd
          rw [List.pairwise_iff_getElem] at hkd
          have hj' : j.toNat < l.length := by omega
          have hv' : v.toNat < l.length := by omega
          have := hkd _ _ hj' hv' (by omega)
          have e1 : gi l j = l[j.toNat] := by unfold gi; rw [List.getD_eq_getElem?_getD, List.getElem?_eq_getElem hj']; rfl
          have e2 : gi l v = l[v.toNat] := by unfold gi; rw [List.getD_eq_getElem?_getD, List.getElem?_eq_getElem hv']; rfl
          rw [e1, e2] at hk
          exact this hk
        · rw [(putR_p hSs (h.2 _ hm) hs).2 hh, bsome]
          refine Ok.ite (fun hn => absurd rfl hn) (fun _ => Ok.gd (by unfold I64; omega) (Ok.ret ⟨⟨⟨by show 0 ≤ v + 1; omega, by show v + 1 ≤ _; omega⟩, ?_, insI_pair hs hh, fun x hxx => ?_⟩, by show (l.length - (v + 1)).toNat < _; omega⟩))
          · show (insI s (gi l v)).Perm (l.take (v + 1).toNat)
            rw [take_nextV ⟨v0, hlt⟩]
            exact (insI_perm _ _).trans ((hp.cons _).trans (List.perm_append_singleton _ _).symm)
          · rcases List.mem_cons.1 ((insI_perm _ _).mem_iff.1 hxx) with rfl | hxx
            · exact ⟨hin, htu⟩
            · exact hx x hxx
    · have hv : v = l.length := by omega
      subst hv
      rw [Int.toNat_natCast, List.take_length] at hp
      refine ⟨hp, hs, fun x hxx => ?_, (KD.perm hp).1 (KD.of hs)⟩
      have h1 := hx x (hp.mem_iff.2 hxx)
      exact ⟨h1.1, fun y hy => by rw [h1.2, (hx y (hp.mem_iff.2 hy)).2]⟩
  · rintro (s | r) hr
    · obtain ⟨hp, hs, hmo⟩ := hr
      dsimp only [Ex.then]
      have hSs := h.perm hp
      have hl2 := hSs.1
      refine Ok.bind (R := fun x => x = s.flatMap (·.commands)) (Ok.loop (fun z : List Cmd × Int => (0 ≤ z.2 ∧ z.2 ≤ s.length) ∧ z.1 = (s.take z.2.toNat).flatMap (·.commands) ∧ (z.1.length : Int) ≤ 1000000 * z.2) (fun z => (s.length - z.2).toNat) ⟨by simp, by simp, by simp⟩ (by unfold FUEL; simp; omega) ?_) (fun x hx => Ok.ret ⟨fun hn => absurd hmo hn, fun _ => ⟨s, hp, hs, by rw [hx]⟩⟩)
      rintro ⟨a, v⟩ ⟨⟨v0, v1⟩, ha, hb⟩
      dsimp only at v0 v1 ha hb ⊢
      refine Ok.ite (fun hlt => Ok.gd ⟨v0, hlt⟩ ?_) (fun hlt => Ok.ret ?_)
      · have hI := hSs.2 _ (gi_mem ⟨v0, hlt⟩)
        have hI1 := hI.1
        rw [copyCs_p hI.1 hI.2, bsome]
        refine Ok.gd (by omega) (Ok.gd (by unfold I64; omega) (Ok.ret ⟨⟨⟨by show 0 ≤ v + 1; omega, by show v + 1 ≤ _; omega⟩, ?_, ?_⟩, by show (s.length - (v + 1)).toNat < _; omega⟩))
        · show _ = (s.take (v + 1).toNat).flatMap _
          rw [take_nextV ⟨v0, hlt⟩, List.flatMap_append, ← ha]; simp
        · show ((a ++ _).length : Int) ≤ 1000000 * (v + 1)
          rw [List.length_append]; omega
      · have : v = s.length := by omega
        subst this
        rw [ha]; simp
    · dsimp only [Ex.then]
      exact Ok.ret ⟨fun _ => hr.1, fun hm => absurd hm hr.2⟩
end Go.Proofs.YtnadebijiaelkaaGreat
set_option linter.unusedVariables false
set_option linter.unusedSimpArgs false
namespace Go.Proofs.YtnadebijiaelkaaGreat
open Go.Vg Go.Lib
/-- Slices that are Go's. -/
def CmdG (c : Cmd) : Prop := c.units.length ≤ 140737488351232
def InpG (i : Inp) : Prop := i.commands.length ≤ 140737488351232 ∧ ∀ c ∈ i.commands, CmdG c
def InpsG (l : List Inp) : Prop := l.length ≤ 140737488351232 ∧ ∀ i ∈ l, InpG i
theorem Inp.Wf.G {i : Inp} (h : Inp.Wf i) : InpG i := ⟨h.2.2.2, fun c hc => (h.2.2.1 c hc).2.2.2.2.1.2⟩
/-- Commands' weight: more than enough, or what they are. -/
theorem weightC_p {l : List Cmd} (hl : l.length ≤ 140737488351232) (hs : ∀ c ∈ l, CmdG c) : Ok (thronglaw0_CommandsWeight l) fun w => (0 ≤ w ∧ w ≤ 281474976800000) ∧ (l.length : Int) ≤ w ∧ (w < 1048576 → ∀ c ∈ l, (c.units.length : Int) ≤ w) := by
  unfold thronglaw0_CommandsWeight
  refine Ok.bind (R := fun w : Int => (0 ≤ w ∧ w ≤ 281474976800000) ∧ (l.length : Int) ≤ w ∧ (w < 1048576 → ∀ c ∈ l, (c.units.length : Int) ≤ w))
    (Ok.loop (fun z : Int × Int => (0 ≤ z.2 ∧ z.2 ≤ l.length) ∧ ((l.length : Int) ≤ z.1 ∧ z.1 ≤ 281474976800000) ∧ ∀ u, 0 ≤ u → u < z.2 → ((gi l u).units.length : Int) ≤ z.1) (fun z => (l.length - z.2).toNat) ⟨by simp, by simp; omega, fun u u0 u1 => by have : u < 0 := u1; omega⟩ (by unfold FUEL; simp; omega) ?_) (fun x hx => Ok.ret hx)
  rintro ⟨n, i⟩ ⟨⟨h0, h1⟩, ⟨h2, h3⟩, hq⟩
  dsimp only at h0 h1 h2 h3 hq ⊢
  refine Ok.ite (fun hlt => Ok.gd ⟨h0, hlt.1⟩ ?_) (fun hlt => Ok.ret ⟨⟨by show 0 ≤ n; omega, h3⟩, h2, fun hw c hc => ?_⟩)
  · have hc := hs _ (gi_mem ⟨h0, hlt.1⟩)
    unfold CmdG at hc
    refine Ok.gd (by unfold I64; omega) (Ok.gd (by unfold I64; omega) (Ok.ret ⟨⟨⟨by show 0 ≤ i + 1; omega, by show i + 1 ≤ _; omega⟩, ⟨by show _ ≤ n + _; omega, by show n + _ ≤ _; omega⟩, fun u u0 u1 => ?_⟩, by show (l.length - (i + 1)).toNat < _; omega⟩))
    show _ ≤ n + _
    by_cases e : u = i
    · subst e; omega
    · have := hq u u0 (by have : u < i + 1 := u1; omega); omega
  · obtain ⟨u, u0, u1, rfl⟩ := gi_mem2.1 hc
    exact hq u u0 (by omega)
theorem weightI_p {l : List Inp} (hs : InpsG l) : Ok (thronglaw0_InputsWeight l) fun w => (0 ≤ w ∧ w ≤ 281474977848576) ∧ (w ≤ 2000 → InpsS l ∧ l.length ≤ 2000 ∧ ∀ i ∈ l, i.commands.length ≤ 2000 ∧ ∀ c ∈ i.commands, c.units.length ≤ 2000) := by
  unfold thronglaw0_InputsWeight
  refine Ok.bind (R := fun w : Int => (0 ≤ w ∧ w ≤ 281474977848576) ∧ (w ≤ 2000 → InpsS l ∧ l.length ≤ 2000 ∧ ∀ i ∈ l, i.commands.length ≤ 2000 ∧ ∀ c ∈ i.commands, c.units.length ≤ 2000))
    (Ok.loop (fun z : Int × Int => (0 ≤ z.2 ∧ z.2 ≤ l.length) ∧ ((l.length : Int) ≤ z.1 ∧ z.1 ≤ 281474976800000 + 1048576) ∧ (z.1 < 1048576 → ∀ u, 0 ≤ u → u < z.2 → ((gi l u).commands.length : Int) ≤ z.1 ∧ ∀ c ∈ (gi l u).commands, (c.units.length : Int) ≤ z.1)) (fun z => (l.length - z.2).toNat) ⟨by simp, by simp; have := hs.1; omega, fun _ u u0 u1 => by have : u < 0 := u1; omega⟩ (by unfold FUEL; simp; have := hs.1; omega) ?_) (fun x hx => Ok.ret hx)
  have hl := hs.1
  rintro ⟨n, i⟩ ⟨⟨h0, h1⟩, ⟨h2, h3⟩, hq⟩
  dsimp only at h0 h1 h2 h3 hq ⊢
  refine Ok.ite (fun hlt => Ok.gd ⟨h0, hlt.1⟩ ?_) (fun hlt => Ok.ret ⟨⟨by show 0 ≤ n; omega, h3⟩, fun hw => ?_⟩)
  · have hi := hs.2 _ (gi_mem ⟨h0, hlt.1⟩)
    refine Ok.bind (weightC_p hi.1 hi.2) fun x hx => ?_
    refine Ok.gd (by unfold I64; omega) (Ok.gd (by unfold I64; omega) (Ok.ret ⟨⟨⟨by show 0 ≤ i + 1; omega, by show i + 1 ≤ _; omega⟩, ⟨by show _ ≤ n + _; omega, by show n + _ ≤ _; omega⟩, fun hn u u0 u1 => ?_⟩, by show (l.length - (i + 1)).toNat < _; omega⟩))
    have hn : n + x < 1048576 := hn
    show ((gi l u).commands.length : Int) ≤ n + x ∧ ∀ c ∈ (gi l u).commands, (c.units.length : Int) ≤ n + x
    by_cases e : u = i
    · subst e
      exact ⟨by omega, fun c hc => by have := hx.2.2 (by omega) c hc; omega⟩
    · have := hq (by omega) u u0 (by have : u < i + 1 := u1; omega)
      exact ⟨by omega, fun c hc => by have := this.2 c hc; omega⟩
  · have hw : n ≤ 2000 := hw
    have key : ∀ i ∈ l, i.commands.length ≤ 2000 ∧ ∀ c ∈ i.commands, c.units.length ≤ 2000 := fun y hy => by
      obtain ⟨u, u0, u1, rfl⟩ := gi_mem2.1 hy
      have := hq (by omega) u u0 (by omega)
      exact ⟨by omega, fun c hc => by have := this.2 c hc; omega⟩
    refine ⟨⟨by omega, fun y hy => ⟨by have := (key y hy).1; omega, fun c hc => by have := (key y hy).2 c hc; unfold CmdS; omega⟩⟩, by omega, key⟩
theorem numbers27_p {a : List Int} (h : a.length < 1099511627776) : thronglaw0_Numbers a = some () := by
  unfold thronglaw0_Numbers
  refine Ok.eq (Ok.bind (R := fun m : List Int => m.length = a.length) (Ok.loop (fun z : Int × List Int => (0 ≤ z.1 ∧ z.1 ≤ a.length) ∧ z.2.length = a.length) (fun z => (a.length - z.1).toNat) ⟨by simp, rfl⟩ (by unfold FUEL; simp; omega) ?_) fun x hx => Ok.gd (by omega) (Ok.ret rfl))
  rintro ⟨i, m⟩ ⟨⟨h0, h1⟩, hq⟩
  dsimp only at h0 h1 hq ⊢
  exact Ok.ite (fun hlt => Ok.gd ⟨h0, hlt⟩ (Ok.gd (by unfold I64; omega) (Ok.ret ⟨⟨by show 0 ≤ i + 1 ∧ i + 1 ≤ _; omega, by show (si m _ _).length = _; rw [len_si]; exact hq⟩, by show ((a.length : Int) - (i + 1)).toNat < _; omega⟩))) (fun _ => Ok.ret hq)
theorem commands_p {l : List Cmd} (hl : l.length ≤ 1000000) (hs : ∀ c ∈ l, CmdS c) : thronglaw0_Commands l = some () := by
  unfold thronglaw0_Commands
  refine Ok.eq (Ok.bind (R := fun _ : Unit => True) (Ok.loop (fun v : Int => 0 ≤ v ∧ v ≤ l.length) (fun v => (l.length - v).toNat) ⟨by simp, by simp⟩ (by unfold FUEL; simp; omega) ?_) fun x hx => Ok.gd (by omega) (Ok.ret rfl))
  rintro v ⟨v0, v1⟩
  refine Ok.ite (fun hlt => Ok.gd ⟨v0, hlt⟩ ?_) (fun _ => Ok.ret trivial)
  have := hs _ (gi_mem ⟨v0, hlt⟩)
  unfold CmdS at this
  rw [numbers27_p (by omega), bsome]
  exact Ok.gd (by unfold I64; omega) (Ok.ret ⟨⟨by omega, by omega⟩, by omega⟩)
theorem inputs_p {l : List Inp} (h : InpsS l) : thronglaw0_Inputs l = some () := by
  have hl := h.1
  unfold thronglaw0_Inputs
  refine Ok.eq (Ok.bind (R := fun _ : Unit => True) (Ok.loop (fun v : Int => 0 ≤ v ∧ v ≤ l.length) (fun v => (l.length - v).toNat) ⟨by simp, by simp⟩ (by unfold FUEL; simp; omega) ?_) fun x hx => Ok.gd (by omega) (Ok.ret rfl))
  rintro v ⟨v0, v1⟩
  refine Ok.ite (fun hlt => Ok.gd ⟨v0, hlt⟩ ?_) (fun _ => Ok.ret trivial)
  have := h.2 _ (gi_mem ⟨v0, hlt⟩)
  rw [commands_p this.1 this.2, bsome]
  exact Ok.gd (by unfold I64; omega) (Ok.ret ⟨⟨by omega, by omega⟩, by omega⟩)
theorem flat_len {n : Nat} : ∀ {l : List Inp}, (∀ i ∈ l, i.commands.length ≤ n) → (l.flatMap (·.commands)).length ≤ n * l.length
  | [], _ => by simp
  | i :: l, h => by
    have h1 := h i (by simp)
    have h2 := flat_len (l := l) fun j hj => h j (by simp [hj])
    rw [List.flatMap_cons, List.length_append, List.length_cons, Nat.mul_succ]; omega
theorem flat_S {l : List Inp} (h : InpsS l) : ∀ c ∈ l.flatMap (·.commands), CmdS c := fun c hc => by
  obtain ⟨i, hi, hc⟩ := List.mem_flatMap.1 hc
  exact (h.2 i hi).2 c hc
end Go.Proofs.YtnadebijiaelkaaGreat
set_option linter.unusedVariables false
set_option linter.unusedSimpArgs false
namespace Go.Proofs.YtnadebijiaelkaaGreat
open Go.Vg
open Go
/-! ### The least and the greatest -/
def IsMin (l : List Int) (m : Int) : Prop := (∃ v : Int, (0 ≤ v ∧ v < l.length) ∧ gi l v = m) ∧ ∀ v : Int, 0 ≤ v → v < l.length → m ≤ gi l v
def IsMax (l : List Int) (m : Int) : Prop := (∃ v : Int, (0 ≤ v ∧ v < l.length) ∧ gi l v = m) ∧ ∀ v : Int, 0 ≤ v → v < l.length → gi l v ≤ m
theorem IsMin.uniq {l : List Int} {m n : Int} (h : IsMin l m) (k : IsMin l n) : m = n := by
  obtain ⟨⟨v, hv, e⟩, h2⟩ := h
  obtain ⟨⟨u, hu, f⟩, k2⟩ := k
  have a := h2 u hu.1 hu.2
  have b := k2 v hv.1 hv.2
  omega
theorem min_p {l : List Int} (h0 : 0 < l.length) (hl : l.length ≤ 1000000) : Ok (slices_Min l) (IsMin l) := by
  unfold slices_Min
  rw [if_neg (by omega), Option.bind_some]
  refine Ok.gd ⟨by omega, by omega⟩ (Ok.bind (R := IsMin l) (Ok.loop (fun z : Int × Int => (1 ≤ z.2 ∧ z.2 ≤ l.length) ∧ (∃ v : Int, (0 ≤ v ∧ v < z.2) ∧ gi l v = z.1) ∧ ∀ v : Int, 0 ≤ v → v < z.2 → z.1 ≤ gi l v) (fun z => (l.length - z.2).toNat) ⟨⟨by show (1 : Int) ≤ 1; omega, by show (1 : Int) ≤ _; omega⟩, ⟨0, by omega, rfl⟩, fun v v0 v1 => by
    have : v = 0 := by dsimp only at v1; omega
    subst this; exact Int.le_refl _⟩ (by unfold FUEL; dsimp only; omega) ?_) (fun x hx => Ok.ret hx))
  rintro ⟨m, j⟩ ⟨⟨j0, j1⟩, ⟨v, hv, e⟩, hm⟩
  dsimp only at j0 j1 hv e hm ⊢
  refine Ok.ite (fun hlt => Ok.gd ⟨by omega, hlt⟩ (Ok.gd (by unfold I64; omega) (Ok.ret ⟨⟨⟨by show 1 ≤ j + 1; omega, by show j + 1 ≤ _; omega⟩, ?_, ?_⟩, by show (l.length - (j + 1)).toNat < (l.length - j).toNat; omega⟩))) (fun hlt => Ok.ret ⟨⟨v, by omega, e⟩, fun u u0 u1 => hm u u0 (by omega)⟩)
  · by_cases hc : m ≤ gi l j
    · exact ⟨v, by dsimp only; omega, by rw [e]; show m = min m (gi l j); omega⟩
    · exact ⟨j, by dsimp only; omega, by show gi l j = min m (gi l j); omega⟩
  · intro u u0 u1
    dsimp only at u1
    show min m (gi l j) ≤ _
    by_cases hu : u = j
    · subst hu; omega
    · have := hm u u0 (by omega); omega
theorem least_p {l : List Int} (h0 : 0 < l.length) (hl : l.length ≤ 1000000) : Ok (throngref27_least l) (IsMin l) := by
  obtain ⟨m, hm, hi⟩ := min_p h0 hl
  have : throngref27_least l = slices_Min l := by
    unfold slices_Min
    rw [if_neg (show ¬ (l.length : Int) < 1 by omega), Option.bind_some]
    rfl
  rw [this]
  exact ⟨m, hm, hi⟩
def minL (l : List Int) : Int := (slices_Min l).getD 0
theorem min_e {l : List Int} (h0 : 0 < l.length) (hl : l.length ≤ 1000000) : slices_Min l = some (minL l) ∧ throngref27_least l = some (minL l) ∧ IsMin l (minL l) := by
  obtain ⟨m, hm, hi⟩ := min_p h0 hl
  obtain ⟨n, hn, hj⟩ := least_p h0 hl
  have e : minL l = m := by unfold minL; rw [hm]; rfl
  rw [e, hm, hn, hj.uniq hi]
  exact ⟨rfl, rfl, hi⟩
theorem max_p {l : List Int} (h0 : 0 < l.length) (hl : l.length ≤ 1000000) : Ok (slices_Max l) (IsMax l) := by
  unfold slices_Max
  rw [if_neg (by omega), Option.bind_some]
  refine Ok.gd ⟨by omega, by omega⟩ (Ok.bind (R := IsMax l) (Ok.loop (fun z : Int × Int => (1 ≤ z.2 ∧ z.2 ≤ l.length) ∧ (∃ v : Int, (0 ≤ v ∧ v < z.2) ∧ gi l v = z.1) ∧ ∀ v : Int, 0 ≤ v → v < z.2 → gi l v ≤ z.1) (fun z => (l.length - z.2).toNat) ⟨⟨by show (1 : Int) ≤ 1; omega, by show (1 : Int) ≤ _; omega⟩, ⟨0, by omega, rfl⟩, fun v v0 v1 => by
    have : v = 0 := by dsimp only at v1; omega
    subst this; exact Int.le_refl _⟩ (by unfold FUEL; dsimp only; omega) ?_) (fun x hx => Ok.ret hx))
  rintro ⟨m, j⟩ ⟨⟨j0, j1⟩, ⟨v, hv, e⟩, hm⟩
  dsimp only at j0 j1 hv e hm ⊢
  refine Ok.ite (fun hlt => Ok.gd ⟨by omega, hlt⟩ (Ok.gd (by unfold I64; omega) (Ok.ret ⟨⟨⟨by show 1 ≤ j + 1; omega, by show j + 1 ≤ _; omega⟩, ?_, ?_⟩, by show (l.length - (j + 1)).toNat < (l.length - j).toNat; omega⟩))) (fun hlt => Ok.ret ⟨⟨v, by omega, e⟩, fun u u0 u1 => hm u u0 (by omega)⟩)
  · by_cases hc : gi l j ≤ m
    · exact ⟨v, by dsimp only; omega, by rw [e]; show m = max m (gi l j); omega⟩
    · exact ⟨j, by dsimp only; omega, by show gi l j = max m (gi l j); omega⟩
  · intro u u0 u1
    dsimp only at u1
    show _ ≤ max m (gi l j)
    by_cases hu : u = j
    · subst hu; omega
    · have := hm u u0 (by omega); omega
/-! ### Negated chains -/
theorem Nb.or {c : Prop} [Decidable c] {m : Option Bool} {q : Prop} (hm : ¬ c → Bo m q) : Ok (if c then some true else Option.bind m fun x => some (!x)) fun b => b = true ↔ ¬ (¬ c ∧ q) := by
  by_cases h : c
  · rw [if_pos h]; exact Ok.ret ⟨fun _ k => k.1 h, fun _ => rfl⟩
  · rw [if_neg h]
    obtain ⟨r, e, hr⟩ := hm h
    rw [e]
    refine Ok.ret ?_
    cases r with
    | true => simp [h, hr.1 rfl]
    | false =>
      have : ¬ q := fun k => by have := hr.2 k; cases this
      simp [this]
theorem Nb.orB {b0 : Bool} {C : Prop} {m : Option Bool} {q : Prop} (hb : b0 = true ↔ ¬ C) (hm : C → Bo m q) : Ok (if b0 = true then some true else Option.bind m fun x => some (!x)) fun b => b = true ↔ ¬ (C ∧ q) := by
  refine Ok.mono (Nb.or (c := b0 = true) (m := m) (q := q) (fun h => hm (Classical.byContradiction fun k => h (hb.2 k)))) fun b e => ?_
  rw [e]
  constructor
  · intro h k; exact h ⟨fun x => hb.1 x k.1, k.2⟩
  · intro h k; exact h ⟨Classical.byContradiction fun x => k.1 (hb.2 x), k.2⟩
theorem Nb.not {b0 : Bool} {C : Prop} (hb : b0 = true ↔ ¬ C) (h : ¬ b0 = true) : C := Classical.byContradiction fun x => h (hb.2 x)
theorem bId {m : Option Bool} {p : Prop} (h : Bo m p) : Bo (Option.bind m fun x => some x) p := by
  obtain ⟨r, e, hr⟩ := h
  rw [e]; exact Ok.ret hr
theorem bAnd {c : Prop} [Decidable c] {m : Option Bool} {p : Prop} (h : c → Bo m p) : Bo (if c then Option.bind m fun x => some x else some false) (c ∧ p) := by
  by_cases hc : c
  · rw [if_pos hc]; exact (bId (h hc)).iff ⟨fun k => ⟨hc, k⟩, fun k => k.2⟩
  · rw [if_neg hc]; exact Ok.ret ⟨fun e => (by cases e), fun k => absurd k.1 hc⟩
/-! ### Which may be -/
structure PerS (p : Per) : Prop where
  mine : InpsS p.mine
  inputs : InpsS p.inputs
  has : p.has.length ≤ 1000000
  acked : p.acked.length ≤ 1000000
  hashes : p.hashes.length ≤ 1000000
structure Val (p : Per) : Prop where
  pl : 1 ≤ p.players ∧ p.players ≤ 8
  id : 1 ≤ p.id ∧ p.id ≤ p.players
  dl : 1 ≤ p.delay ∧ p.delay ≤ 8
  tn : 0 ≤ p.turn ∧ p.turn ≤ 1099511627776
  sd : p.delay - 1 ≤ p.said ∧ p.said ≤ p.turn + p.delay - 1 ∧ p.said ≤ 1099511627776
  hl : (p.has.length : Int) = p.players
  al : (p.acked.length : Int) = p.players
  hv : ∀ v : Int, 0 ≤ v → v < p.players → p.delay - 1 ≤ gi p.has v ∧ p.turn - 1 ≤ gi p.has v ∧ gi p.has v ≤ p.turn + 16 ∧ gi p.has v ≤ 1099511627776
  av : ∀ v : Int, 0 ≤ v → v < p.players → p.delay - 1 ≤ gi p.acked v ∧ gi p.acked v ≤ p.said
  hme : gi p.has (p.id - 1) = p.said
  ame : gi p.acked (p.id - 1) = p.said
  hs : (p.hashes.length : Int) ≤ 16 ∧ (p.hashes.length : Int) ≤ p.turn
  inp : ListOk p.inputs
  iv : ∀ v : Int, 0 ≤ v → v < p.inputs.length → p.turn ≤ (gi p.inputs v).turn ∧ (gi p.inputs v).player ≤ p.players ∧ (gi p.inputs v).turn ≤ gi p.has ((gi p.inputs v).player - 1)
  ml : (p.mine.length : Int) = p.said - minL p.acked
  mv : ∀ v : Int, 0 ≤ v → v < p.mine.length → InpOk (gi p.mine v) ∧ (gi p.mine v).player = p.id ∧ (gi p.mine v).turn = minL p.acked + 1 + v
theorem Val.mn {p : Per} (h : Val p) : IsMin p.acked (minL p.acked) := (min_e (by have := h.al; have := h.pl; omega) (by have := h.al; have := h.pl; omega)).2.2
def CountsOk (p : Per) (l : List Int) : Prop := (∀ v : Int, 0 ≤ v → v < l.length → p.delay - 1 ≤ gi l v ∧ gi l v ≤ p.turn + 16 ∧ gi l v ≤ 1099511627776) ∧ (l.length : Int) = p.players ∧ gi l (p.id - 1) = p.said
theorem counts_b {p : Per} {l : List Int} (hl : l.length ≤ 1000000) (h1 : 1 ≤ p.players ∧ p.players ≤ 8) (h2 : 1 ≤ p.id ∧ p.id ≤ p.players) (h3 : 1 ≤ p.delay ∧ p.delay ≤ 8) (h4 : 0 ≤ p.turn ∧ p.turn ≤ 1099511627776) : Bo (peer_counts p l) (CountsOk p l) := by
  unfold peer_counts
  refine Ok.bind (scanOk (a := 0) (n := l.length) (fun v => p.delay - 1 ≤ gi l v ∧ gi l v ≤ p.turn + 16 ∧ gi l v ≤ 1099511627776) (fun r => r = false ∧ ¬ CountsOk p l) (by omega) (fun v v0 v1 _ => ?_) (fun v v0 v1 => by rw [if_neg (by omega)])) ?_
  · rw [if_pos v1]
    refine Ok.gd ⟨v0, v1⟩ (Ok.gd (by unfold I64; omega) (Ok.gd (fun _ => by unfold I64; omega) (Ok.ite (fun h => Ok.ret ⟨rfl, fun hu => ?_⟩) (fun h => Ok.gd (by unfold I64; omega) (Ok.ret ⟨rfl, by omega⟩)))))
    have := hu.1 v v0 v1
    omega
  · rintro (_ | _) hx
    · exact Ok.gd (fun _ => by unfold I64; omega) (Ok.gd (fun e => by omega) (Bo.dec ⟨fun h => ⟨hx, h⟩, fun h => h.2⟩))
    · exact Ok.ret ⟨fun e => (by rw [hx.1] at e; cases e), fun h => absurd h hx.2⟩
def MineOk (p : Per) : Prop := (p.mine.length : Int) = p.said - minL p.acked ∧ ∀ v : Int, 0 ≤ v → v < p.mine.length → InpOk (gi p.mine v) ∧ (gi p.mine v).player = p.id ∧ (gi p.mine v).turn = minL p.acked + 1 + v
theorem mine_b {p : Per} (hs : PerS p) (hp : 0 < p.acked.length) (ha : ∀ v : Int, 0 ≤ v → v < p.acked.length → 0 ≤ gi p.acked v ∧ gi p.acked v ≤ p.said) (h5 : 0 ≤ p.said ∧ p.said ≤ 1099511627776) : Bo (peer_mine p) (MineOk p) := by
  obtain ⟨e1, _, ⟨⟨v, hv, e⟩, _⟩⟩ := min_e hp hs.acked
  have hm := ha v hv.1 hv.2
  rw [e] at hm
  have hml := hs.mine.1
  unfold peer_mine
  rw [e1, bsome]
  refine Ok.gd (by unfold I64; omega) (Ok.ite (fun hn => Ok.ret ⟨fun e => (by cases e), fun k => absurd k.1 hn⟩) (fun hn => ?_))
  have hn := Decidable.not_not.1 hn
  refine (scanBo (a := 0) (n := p.mine.length) (fun v => InpOk (gi p.mine v) ∧ (gi p.mine v).player = p.id ∧ (gi p.mine v).turn = minL p.acked + 1 + v) (by omega) (fun v v0 v1 _ => ?_) (fun v v0 v1 => by rw [if_neg (by omega)])).iff ⟨fun k => ⟨hn, k⟩, fun k => k.2⟩
  rw [if_pos v1]
  refine Ok.gd ⟨v0, v1⟩ ?_
  obtain ⟨b, eb, hb⟩ := mayI_b (hs.mine.2 _ (gi_mem ⟨v0, v1⟩))
  rw [eb, bsome]
  refine Ok.gd (fun _ => by unfold I64; omega) (Ok.gd (fun _ => by unfold I64; omega) (Ok.gd (fun _ => by unfold I64; omega) (Ok.ite (fun h => Ok.ret ⟨rfl, fun k => ?_⟩) (fun h => Ok.gd (by unfold I64; omega) (Ok.ret ⟨rfl, ?_⟩)))))
  · have := hb.2 k.1
    subst this
    rcases h with (h | h) | h
    · cases h
    · exact h k.2.1
    · exact h (by rw [k.2.2]; omega)
  · have hbt : b = true := by cases b <;> simp_all
    refine ⟨hb.1 hbt, ?_, ?_⟩
    · apply Classical.byContradiction; intro k; exact h (.inl (.inr k))
    · apply Classical.byContradiction; intro k; exact h (.inr (by omega))
def InputsOk (p : Per) : Prop := ∀ v : Int, 0 ≤ v → v < p.inputs.length → p.turn ≤ (gi p.inputs v).turn ∧ (gi p.inputs v).player ≤ p.players ∧ (gi p.inputs v).turn ≤ gi p.has ((gi p.inputs v).player - 1)
theorem inputs_b {p : Per} (hs : PerS p) (ho : ListOk p.inputs) (hp : (p.has.length : Int) = p.players) (h1 : 1 ≤ p.players ∧ p.players ≤ 8) : Bo (peer_inputs p) (InputsOk p) := by
  have hml := hs.inputs.1
  unfold peer_inputs
  refine scanBo (a := 0) (n := p.inputs.length) (fun v => p.turn ≤ (gi p.inputs v).turn ∧ (gi p.inputs v).player ≤ p.players ∧ (gi p.inputs v).turn ≤ gi p.has ((gi p.inputs v).player - 1)) (by omega) (fun v v0 v1 _ => ?_) (fun v v0 v1 => by rw [if_neg (by omega)])
  rw [if_pos v1]
  have hk := (ho v v0 v1).1.1
  refine Ok.gd ⟨v0, v1⟩ (Ok.gd (fun _ => by unfold I64; omega) (Ok.gd (fun _ => by omega) (Ok.ite (fun h => Ok.ret ⟨rfl, fun k => by omega⟩) (fun h => Ok.gd (by unfold I64; omega) (Ok.ret ⟨rfl, by omega⟩)))))
theorem may_b {p : Per} (hs : PerS p) : Bo (peer_May p) (Val p) := by
  unfold peer_May
  refine Ok.ite (fun h => Ok.ret ⟨fun e => (by cases e), fun k => ?_⟩) (fun h => ?_)
  · have h1 := k.pl; have h2 := k.id; have h3 := k.dl; have h4 := k.tn
    omega
  have h1 : 1 ≤ p.players ∧ p.players ≤ 8 := by omega
  have h2 : 1 ≤ p.id ∧ p.id ≤ p.players := by omega
  have h3 : 1 ≤ p.delay ∧ p.delay ≤ 8 := by omega
  have h4 : 0 ≤ p.turn ∧ p.turn ≤ 1099511627776 := by omega
  refine Ok.gd (by unfold I64; omega) (Ok.gd (fun _ => by unfold I64; omega) (Ok.gd (fun _ => by unfold I64; omega) ?_))
  refine Ok.bind (Nb.or (fun _ => counts_b hs.has h1 h2 h3 h4)) fun b hb => ?_
  refine Ok.bind (Nb.orB hb (fun _ => counts_b hs.acked h1 h2 h3 h4)) fun b2 hb2 => ?_
  refine Ok.ite (fun hbt => Ok.ret ⟨fun e => (by cases e), fun k => ?_⟩) (fun hbt => ?_)
  · refine absurd ⟨⟨?_, ?_⟩, ?_⟩ (hb2.1 hbt)
    · have := k.sd; omega
    · refine ⟨fun v v0 v1 => ?_, k.hl, k.hme⟩
      have := k.hv v v0 (by have := k.hl; omega); omega
    · refine ⟨fun v v0 v1 => ?_, k.al, k.ame⟩
      have := k.av v v0 (by have := k.al; omega); have := k.sd; omega
  obtain ⟨⟨hsd, hch⟩, hca⟩ := Nb.not hb2 hbt
  have hsd : p.delay - 1 ≤ p.said ∧ p.said ≤ p.turn + p.delay - 1 ∧ p.said ≤ 1099511627776 := by omega
  have hl := hch.2.1
  have al := hca.2.1
  obtain ⟨e1, _, hmin⟩ := min_e (l := p.has) (by omega) hs.has
  rw [e1, bsome]
  refine Ok.gd (by unfold I64; omega) ?_
  have hmx : Bo (Option.bind (slices_Max p.acked) fun x => some (!decide (p.said < x))) (∀ v : Int, 0 ≤ v → v < p.acked.length → gi p.acked v ≤ p.said) := by
    obtain ⟨m, em, ⟨⟨v, hv, e⟩, hm⟩⟩ := max_p (l := p.acked) (by omega) hs.acked
    rw [em]
    refine Ok.ret ?_
    rw [Bool.not_eq_true', decide_eq_false_iff_not]
    constructor
    · intro h u u0 u1
      have := hm u u0 u1; omega
    · intro h; have := h v hv.1 hv.2; omega
  have hmx2 : Ok (if minL p.has < p.turn - 1 then some true else Option.bind (slices_Max p.acked) fun x => some (decide (p.said < x))) fun b => b = true ↔ ¬ (¬ (minL p.has < p.turn - 1) ∧ ∀ v : Int, 0 ≤ v → v < p.acked.length → gi p.acked v ≤ p.said) := by
    by_cases hc : minL p.has < p.turn - 1
    · rw [if_pos hc]; exact Ok.ret ⟨fun _ k => k.1 hc, fun _ => rfl⟩
    · rw [if_neg hc]
      obtain ⟨m, em, hm⟩ := max_p (l := p.acked) (by omega) hs.acked
      rw [em] at hmx ⊢
      obtain ⟨r, e, hr⟩ := hmx
      obtain rfl := Option.some.inj e
      refine Ok.ret ?_
      rw [Bool.not_eq_true', decide_eq_false_iff_not] at hr
      rw [decide_eq_true_iff, ← hr]
      constructor
      · intro k q; exact q.2 k
      · intro k; apply Classical.byContradiction; intro q; exact k ⟨hc, q⟩
  refine Ok.bind hmx2 fun b3 hb3 => ?_
  refine Ok.ite (fun hbt => Ok.ret ⟨fun e => (by cases e), fun k => ?_⟩) (fun hbt => ?_)
  · have := k.hs
    rcases hbt with (hbt | hbt) | hbt
    · refine absurd ⟨?_, fun v v0 v1 => (k.av v v0 (by omega)).2⟩ (hb3.1 hbt)
      obtain ⟨v, hv, e⟩ := hmin.1
      have := k.hv v hv.1 (by omega)
      omega
    · omega
    · omega
  have hb3t : ¬ b3 = true := fun e => hbt (.inl (.inl e))
  obtain ⟨hmn, hax⟩ := Nb.not hb3 hb3t
  have hhs : (p.hashes.length : Int) ≤ 16 ∧ (p.hashes.length : Int) ≤ p.turn := by omega
  obtain ⟨m1, em1, hm1⟩ := mine_b hs (by omega) (fun v v0 v1 => by have := hca.1 v v0 v1; have := hax v v0 v1; omega) (by omega)
  rw [em1, bsome]
  refine Ok.bind (bAnd (c := m1 = true) (fun _ => rising_b hs.inputs)) fun b4 hb4 => ?_
  refine Bo.iff (bId (bAnd (c := b4 = true) (fun h => inputs_b hs (hb4.1 h).2 hl h1))) ?_
  rw [hb4, hm1]
  constructor
  · rintro ⟨⟨⟨hm2, hm3⟩, hli⟩, hin⟩
    exact ⟨h1, h2, h3, h4, hsd, hl, al, fun v v0 v1 => by
      have a := hch.1 v v0 (by omega)
      have b := hmin.2 v v0 (by omega)
      omega, fun v v0 v1 => ⟨(hca.1 v v0 (by omega)).1, hax v v0 (by omega)⟩, hch.2.2, hca.2.2, hhs, hli, hin, hm2, hm3⟩
  · intro k
    exact ⟨⟨⟨k.ml, k.mv⟩, k.inp⟩, k.iv⟩
end Go.Proofs.YtnadebijiaelkaaGreat
set_option linter.unusedVariables false
set_option linter.unusedSimpArgs false
namespace Go.Proofs.YtnadebijiaelkaaGreat
open Go.Vg
open Go
theorem between_b {l : List Int} {a b : Int} (hl : l.length ≤ 1000000) : Bo (throngref0_Between l a b) (∀ v : Int, 0 ≤ v → v < l.length → a ≤ gi l v ∧ gi l v ≤ b) := by
  unfold throngref0_Between
  refine scanBo (a := 0) (n := l.length) (fun v => a ≤ gi l v ∧ gi l v ≤ b) (by omega) (fun v v0 v1 _ => ?_) (fun v v0 v1 => by rw [if_neg (by omega)])
  rw [if_pos v1]
  exact Ok.gd ⟨by omega, v1⟩ (Ok.gd (fun _ => ⟨by omega, by omega⟩) (Ok.ite (fun h => Ok.ret ⟨rfl, by omega⟩) (fun h => Ok.gd (by unfold I64; omega) (Ok.ret ⟨rfl, by omega⟩))))
theorem num_b {x m : Int} : Bo (throngref0_Num x m) (0 ≤ x ∧ x ≤ m) := Bo.dec Iff.rfl
theorem mine_list {p : Per} (h : MineOk p) : ListOk p.mine := fun v v0 v1 => ⟨(h.2 v v0 v1).1, fun hv => by
  have a := h.2 v v0 v1
  have b := h.2 (v - 1) (by omega) (by omega)
  unfold InLt; omega⟩
theorem peer_b {p : Per} (hs : PerS p) : Bo (throngref27_Peer p) (Val p) := by
  unfold throngref27_Peer
  refine Ok.bind (Nb.or (fun _ => num_b)) fun b hb => ?_
  have hb : b = true ↔ ¬ ((1 ≤ p.players ∧ p.players ≤ 8) ∧ (1 ≤ p.id ∧ p.id ≤ p.players) ∧ (1 ≤ p.delay ∧ p.delay ≤ 8) ∧ (0 ≤ p.turn ∧ p.turn ≤ 1099511627776)) := by rw [hb]; omega
  have hR : ¬ b = true → (1 ≤ p.players ∧ p.players ≤ 8) ∧ (1 ≤ p.id ∧ p.id ≤ p.players) ∧ (1 ≤ p.delay ∧ p.delay ≤ 8) ∧ (0 ≤ p.turn ∧ p.turn ≤ 1099511627776) := Nb.not hb
  refine Ok.gd (fun h => by have := hR h; unfold I64; omega) (Ok.gd (fun h => by have := hR (fun e => h (.inl e)); unfold I64; omega) (Ok.gd (fun h => by have := hR (fun e => h (.inl e)); unfold I64; omega) ?_))
  refine Ok.bind (Nb.or (fun _ => list_b hs.inputs)) fun b2 hb2 => ?_
  refine Ok.bind (Nb.orB hb2 (fun _ => list_b hs.mine)) fun b3 hb3 => ?_
  refine Ok.ite (fun h => Ok.ret ⟨fun e => (by cases e), fun k => ?_⟩) (fun h => ?_)
  · have := k.hs; have := k.hl; have := k.al
    exfalso
    rcases h with (((h | h) | h) | h) | h
    · refine absurd ⟨⟨?_, k.inp⟩, mine_list ⟨k.ml, k.mv⟩⟩ (hb3.1 h)
      have h6 : ¬ b = true := fun e => hb.1 e ⟨k.pl, k.id, k.dl, k.tn⟩
      have := k.sd; have := k.tn
      rintro ((e | e) | e)
      · exact h6 e
      · omega
      · omega
    · exact h k.hl
    · exact h k.al
    · omega
    · omega
  have hb3t : ¬ b3 = true := fun e => h (.inl (.inl (.inl (.inl e))))
  obtain ⟨⟨hsd, hli⟩, hlm⟩ := Nb.not hb3 hb3t
  have hbt : ¬ b = true := fun e => hsd (.inl (.inl e))
  obtain ⟨h1, h2, h3, h4⟩ := hR hbt
  have hsd : p.delay - 1 ≤ p.said ∧ p.said ≤ p.turn + p.delay - 1 ∧ p.said ≤ 1099511627776 := by omega
  have hl : (p.has.length : Int) = p.players := Decidable.byContradiction fun e => h (.inl (.inl (.inl (.inr e))))
  have al : (p.acked.length : Int) = p.players := Decidable.byContradiction fun e => h (.inl (.inl (.inr e)))
  have hhs : (p.hashes.length : Int) ≤ 16 ∧ (p.hashes.length : Int) ≤ p.turn := by omega
  refine Ok.gd (by unfold I64; omega) (Ok.gd (by unfold I64; omega) (Ok.gd (by unfold I64; omega) ?_))
  obtain ⟨x, ex, hx⟩ := between_b (l := p.has) (a := max (p.delay - 1) (p.turn - 1)) (b := min (p.turn + 16) 1099511627776) hs.has
  rw [ex, bsome]
  obtain ⟨y, ey, hy⟩ := between_b (l := p.acked) (a := p.delay - 1) (b := p.said) hs.acked
  refine Ok.bind (R := fun b => b = true ↔ ¬ (x = true ∧ y = true)) ?_ fun b4 hb4 => ?_
  · cases x with
    | false => rw [if_pos (by rfl)]; exact Ok.ret (by simp)
    | true =>
      rw [if_neg (by simp)]
      refine Ok.gd (by unfold I64; omega) ?_
      rw [ey, bsome]
      exact Ok.ret (by simp)
  refine Ok.gd (fun _ => by unfold I64; omega) (Ok.gd (fun _ => by omega) (Ok.gd (fun _ => by unfold I64; omega) (Ok.gd (fun _ => by omega) ?_)))
  have hvx : x = true ↔ ∀ v : Int, 0 ≤ v → v < p.players → p.delay - 1 ≤ gi p.has v ∧ p.turn - 1 ≤ gi p.has v ∧ gi p.has v ≤ p.turn + 16 ∧ gi p.has v ≤ 1099511627776 := by
    rw [hx]
    exact ⟨fun k v v0 v1 => by have := k v v0 (by omega); omega, fun k v v0 v1 => by have := k v v0 (by omega); omega⟩
  have hvy : y = true ↔ ∀ v : Int, 0 ≤ v → v < p.players → p.delay - 1 ≤ gi p.acked v ∧ gi p.acked v ≤ p.said := by
    rw [hy]
    exact ⟨fun k v v0 v1 => k v v0 (by omega), fun k v v0 v1 => k v v0 (by omega)⟩
  refine Ok.ite (fun h5 => Ok.ret ⟨fun e => (by cases e), fun k => ?_⟩) (fun h5 => ?_)
  · exfalso
    rcases h5 with (h5 | h5) | h5
    · exact hb4.1 h5 ⟨hvx.2 k.hv, hvy.2 k.av⟩
    · exact h5 k.hme
    · exact h5 k.ame
  have hb4t : ¬ b4 = true := fun e => h5 (.inl (.inl e))
  obtain ⟨hxt, hyt⟩ := Nb.not hb4 hb4t
  have hv := hvx.1 hxt
  have hav := hvy.1 hyt
  have hme : gi p.has (p.id - 1) = p.said := Decidable.byContradiction fun e => h5 (.inl (.inr e))
  have ame : gi p.acked (p.id - 1) = p.said := Decidable.byContradiction fun e => h5 (.inr e)
  have hil := hs.inputs.1
  have hml := hs.mine.1
  refine Ok.bind (scanOk (a := 0) (n := p.inputs.length) (fun v => p.turn ≤ (gi p.inputs v).turn ∧ (gi p.inputs v).player ≤ p.players ∧ (gi p.inputs v).turn ≤ gi p.has ((gi p.inputs v).player - 1)) (fun r => r = false ∧ ¬ Val p) (by omega) (fun v v0 v1 _ => ?_) (fun v v0 v1 => by rw [if_neg (by omega)])) ?_
  · rw [if_pos v1]
    have hk := (hli v v0 v1).1.1
    refine Ok.gd ⟨v0, v1⟩ (Ok.gd (fun _ => by unfold I64; omega) (Ok.gd (fun _ => by omega) (Ok.ite (fun h => Ok.ret ⟨rfl, fun k => ?_⟩) (fun h => Ok.gd (by unfold I64; omega) (Ok.ret ⟨rfl, by omega⟩)))))
    have := k.iv v v0 v1
    omega
  · rintro (_ | _) hin
    · dsimp only [Ex.then]
      obtain ⟨_, e2, hmn⟩ := min_e (l := p.acked) (by omega) hs.acked
      rw [e2, bsome]
      obtain ⟨⟨u, hu, eu⟩, _⟩ := hmn
      have hlow := hav u hu.1 (by omega)
      rw [eu] at hlow
      refine Ok.gd (by unfold I64; omega) (Ok.ite (fun hn => Ok.ret ⟨fun e => (by cases e), fun k => absurd k.ml hn⟩) (fun hn => ?_))
      have hn := Decidable.not_not.1 hn
      refine (scanBo (a := 0) (n := p.mine.length) (fun v => (gi p.mine v).player = p.id ∧ (gi p.mine v).turn = minL p.acked + 1 + v) (by omega) (fun v v0 v1 _ => ?_) (fun v v0 v1 => by rw [if_neg (by omega)])).iff ⟨fun k => ?_, fun k v v0 v1 => (k.mv v v0 v1).2⟩
      · rw [if_pos v1]
        refine Ok.gd ⟨v0, v1⟩ (Ok.gd (fun _ => ⟨v0, v1⟩) (Ok.gd (fun _ => by unfold I64; omega) (Ok.gd (fun _ => by unfold I64; omega) (Ok.ite (fun h => Ok.ret ⟨rfl, fun k => ?_⟩) (fun h => Ok.gd (by unfold I64; omega) (Ok.ret ⟨rfl, ?_⟩))))))
        · rcases h with h | h
          · exact h k.1
          · exact h k.2
        · exact ⟨Decidable.byContradiction fun e => h (.inl e), Decidable.byContradiction fun e => h (.inr e)⟩
      · exact ⟨h1, h2, h3, h4, hsd, hl, al, hv, hav, hme, ame, hhs, hli, hin, hn, fun v v0 v1 => ⟨(hlm v v0 v1).1, k v v0 v1⟩⟩
    · exact Ok.ret ⟨fun e => (by rw [hin.1] at e; cases e), fun h => absurd h hin.2⟩
/-! ### Copies -/
theorem copyH_p {l : List UInt64} (h : l.length < 1099511627776) : throngref0_CopyHashes l = some l := copyF_eq h
theorem copyP_p {p : Per} (hs : PerS p) : throngref0_CopyPeer p = some p := by
  unfold throngref0_CopyPeer
  have h1 := hs.has; have h2 := hs.acked; have h3 := hs.hashes
  rw [copyIs_p hs.mine, bsome, copyIs_p hs.inputs, bsome, copyN_p (by omega), bsome, copyN_p (by omega), bsome, copyH_p (by omega), bsome]
theorem own_p {p : Per} (hs : PerS p) : peer_Own p = some p := by
  unfold peer_Own slices_Clone_Int slices_Clone_U64
  have h1 := hs.has; have h2 := hs.acked; have h3 := hs.hashes
  rw [ownIs_p hs.mine, bsome, ownIs_p hs.inputs, bsome, if_pos (by omega), bsome, if_pos (by omega), bsome, if_pos (by omega), bsome]
end Go.Proofs.YtnadebijiaelkaaGreat
set_option linter.unusedVariables false
set_option linter.unusedSimpArgs false
namespace Go.Proofs.YtnadebijiaelkaaGreat
open Go.Vg
open Go
def nilPer : Per := ⟨0, 0, 0, 0, 0, [], [], [], [], [], false⟩
theorem Val.noHas {p : Per} (h : Val p) {x : Inp} (hp : 1 ≤ x.player ∧ x.player ≤ p.players) (ht : gi p.has (x.player - 1) < x.turn) : ¬ Has p.inputs x := by
  rintro ⟨y, hy, e1, e2⟩
  obtain ⟨v, v0, v1, rfl⟩ := gi_mem2.1 hy
  have := h.iv v v0 v1
  rw [e2] at this
  omega
theorem Val.pw {p : Per} (h : Val p) : p.inputs.Pairwise InLt := (ListOk.iff.1 h.inp).2
/-! ### What is put in -/
def IvOk (p : Per) (l : List Inp) (has : List Int) : Prop := ∀ y ∈ l, p.turn ≤ y.turn ∧ y.player ≤ p.players ∧ y.turn ≤ gi has (y.player - 1)
theorem Val.ivm {p : Per} (h : Val p) : IvOk p p.inputs p.has := fun y hy => by
  obtain ⟨v, v0, v1, rfl⟩ := gi_mem2.1 hy
  exact h.iv v v0 v1
/-! ### Say -/
def inpOf (p : Per) (l : List Cmd) : Inp := ⟨p.said + 1, p.id, l⟩
def sayP (p : Per) (l : List Cmd) : Per := ⟨p.id, p.players, p.delay, p.turn, p.said + 1, if 1 < p.players then p.mine ++ [inpOf p l] else p.mine, insI p.inputs (inpOf p l), si p.has (p.id - 1) (p.said + 1), si p.acked (p.id - 1) (p.said + 1), p.hashes, p.split⟩
abbrev Shut (p : Per) : Prop := p.said = (p.turn + p.delay) - 1 ∨ p.said = 1099511627776
theorem say_p {p : Per} {l : List Cmd} (hs : PerS p) (hl : l.length ≤ 1000000) (hc : ∀ c ∈ l, CmdS c) :
    (¬ Val p → peer_Say p l = some (nilPer, 1)) ∧ (Val p → Shut p → peer_Say p l = some (nilPer, 10)) ∧ (Val p → ¬ Shut p → ¬ SaidOk p.id l → peer_Say p l = some (nilPer, 1)) ∧
    (Val p → ¬ Shut p → SaidOk p.id l → peer_Say p l = some (sayP p l, 0)) := by
  unfold peer_Say
  refine ⟨fun h => ?_, fun h hsh => ?_, fun h hsh hso => ?_, fun h hsh hso => ?_⟩
  · rw [(may_b hs).f h, bsome, if_pos (by rfl)]; rfl
  all_goals
    have h3 := h.dl; have h4 := h.tn; have h5 := h.sd
    rw [(may_b hs).t h, bsome, if_neg (by simp), if_pos (by unfold I64; omega), if_pos (by unfold I64; omega)]
  · rw [if_pos hsh]; rfl
  · rw [if_neg hsh, (said_b hl hc).f hso, bsome, if_pos (by rfl)]; rfl
  · have h1 := h.pl; have h2 := h.id; have h6 := h.hl; have h7 := h.al; have hm := hs.mine.1
    have hn : ¬ Has p.inputs (inpOf p l) := h.noHas (x := inpOf p l) h2 (by show gi p.has (p.id - 1) < p.said + 1; rw [h.hme]; omega)
    have hi := (in_p (x := inpOf p l) hs.inputs ⟨hl, hc⟩ h.pw).2 hn
    unfold inpOf at hi
    rw [if_neg hsh, (said_b hl hc).t hso, bsome, if_neg (by simp), own_p hs, bsome, if_pos (by unfold I64; omega), hi, bsome]
    have hown : turns_Own ⟨p.said + 1, p.id, l⟩ = some ⟨p.said + 1, p.id, l⟩ := ownI_p ⟨hl, hc⟩
    have : (if 1 < p.players then Option.bind (turns_Own ⟨p.said + 1, p.id, l⟩) fun x34 => if p.mine.length + 1 < 1099511627776 then some (p.mine ++ ([x34] : List Inp)) else none else some p.mine) = some (if 1 < p.players then p.mine ++ [inpOf p l] else p.mine) := by
      by_cases hp : 1 < p.players
      · rw [if_pos hp, if_pos hp, hown, bsome, if_pos (by omega)]; rfl
      · rw [if_neg hp, if_neg hp]
    rw [this, bsome, if_pos (by unfold I64; omega), if_pos (by unfold I64; omega), if_pos (by omega), if_pos (by omega)]
    rfl
end Go.Proofs.YtnadebijiaelkaaGreat
set_option linter.unusedVariables false
set_option linter.unusedSimpArgs false
namespace Go.Proofs.YtnadebijiaelkaaGreat
open Go.Vg
open Go
/-! ### Notes that may be -/
def NoteOk (n : Nte) : Prop := ((1 ≤ n.frm ∧ n.frm ≤ 8) ∧ (1 ≤ n.dst ∧ n.dst ≤ 8)) ∧ ¬ n.frm = n.dst ∧ (-1 ≤ n.don ∧ n.don ≤ 1099511627776) ∧ (-1 ≤ n.hav ∧ n.hav ≤ 1099511627776) ∧ ¬ (n.don = -1 ∧ ¬ (n.hash.toNat : Int) = 0) ∧
  ((n.input.turn = -1 → n.input.player = 0 ∧ (n.input.commands.length : Int) = 0) ∧ (¬ n.input.turn = -1 → InpOk n.input ∧ n.input.player = n.frm))
theorem mayNote_b {n : Nte} (hs : InpS n.input) : Bo (peer_MayNote n) (NoteOk n) := by
  unfold peer_MayNote
  have ep : ∀ x : Int, peer_player x = some (decide ((1 ≤ x) ∧ (x ≤ 8))) := fun _ => rfl
  have et : ∀ x : Int, Bo (peer_turn x) ((-1 ≤ x) ∧ (x ≤ 1099511627776)) := fun _ => Bo.dec Iff.rfl
  rw [ep, bsome]
  refine Ok.bind (Nb.or (q := (1 ≤ n.dst) ∧ (n.dst ≤ 8)) (fun _ => Bo.dec Iff.rfl)) fun b hb => ?_
  have hb : b = true ↔ ¬ ((1 ≤ n.frm ∧ n.frm ≤ 8) ∧ (1 ≤ n.dst ∧ n.dst ≤ 8)) := by rw [hb]; simp
  refine Ok.bind (Nb.or (fun _ => et _)) fun b2 hb2 => ?_
  refine Ok.bind (Nb.orB hb2 (fun _ => et _)) fun b3 hb3 => ?_
  have hb3 : b3 = true ↔ ¬ (((1 ≤ n.frm ∧ n.frm ≤ 8) ∧ (1 ≤ n.dst ∧ n.dst ≤ 8)) ∧ ¬ n.frm = n.dst ∧ (-1 ≤ n.don ∧ n.don ≤ 1099511627776) ∧ (-1 ≤ n.hav ∧ n.hav ≤ 1099511627776)) := by
    rw [hb3, hb]
    constructor
    · intro h k; exact h ⟨⟨fun e => e.elim (fun e => e k.1) k.2.1, k.2.2.1⟩, k.2.2.2⟩
    · rintro h ⟨⟨k1, k2⟩, k3⟩; exact h ⟨Decidable.byContradiction fun e => k1 (.inl e), fun e => k1 (.inr e), k2, k3⟩
  refine Ok.ite (fun h => Ok.ret ⟨fun e => (by cases e), fun k => ?_⟩) (fun h => ?_)
  · exfalso
    rcases h with h | h
    · exact hb3.1 h ⟨k.1, k.2.1, k.2.2.1, k.2.2.2.1⟩
    · exact k.2.2.2.2.1 h
  obtain ⟨k1, k2, k3, k4⟩ := Nb.not hb3 (fun e => h (.inl e))
  have k5 : ¬ (n.don = -1 ∧ ¬ (n.hash.toNat : Int) = 0) := fun e => h (.inr e)
  refine Ok.ite (fun ht => Bo.dec ⟨fun q => ⟨k1, k2, k3, k4, k5, fun _ => q, fun e => absurd ht e⟩, fun q => q.2.2.2.2.2.1 ht⟩) (fun ht => ?_)
  obtain ⟨r, e, hr⟩ := mayI_b hs
  rw [e, bsome]
  refine Bo.dec ?_
  rw [hr]
  exact ⟨fun q => ⟨k1, k2, k3, k4, k5, fun e => absurd e ht, fun _ => q⟩, fun q => q.2.2.2.2.2.2 ht⟩
/-! ### What is put in, what another one has, whether it is split -/
def inP (p : Per) (n : Nte) : Per := if n.input.turn = gi p.has (n.frm - 1) + 1 then ⟨p.id, p.players, p.delay, p.turn, p.said, p.mine, insI p.inputs n.input, si p.has (n.frm - 1) (gi p.has (n.frm - 1) + 1), p.acked, p.hashes, p.split⟩ else p
def ackP (p : Per) (f hav : Int) : Per := if hav ≤ gi p.acked (f - 1) ∨ p.said < hav then p else ⟨p.id, p.players, p.delay, p.turn, p.said, p.mine.filter (fun i => !decide (i.turn ≤ minL (si p.acked (f - 1) hav))), p.inputs, p.has, si p.acked (f - 1) hav, p.hashes, p.split⟩
def splB (p : Per) (don : Int) (hash : UInt64) : Bool := decide ((don < p.turn ∧ 0 ≤ (p.hashes.length : Int) - (p.turn - don)) ∧ ¬ ((gi p.hashes ((p.hashes.length : Int) - (p.turn - don))).toNat : Int) = (hash.toNat : Int))
def splP (p : Per) (b : Bool) : Per := ⟨p.id, p.players, p.delay, p.turn, p.said, p.mine, p.inputs, p.has, p.acked, p.hashes, b⟩
def takeP (p : Per) (n : Nte) : Per := splP (ackP (inP p n) n.frm n.hav) (p.split || splB p n.don n.hash)
theorem acked_p {p : Per} {f hav : Int} (hf : 1 ≤ f ∧ f ≤ p.acked.length) (hl : p.acked.length ≤ 1000000) (hm : p.mine.length ≤ 1000000) : peer_acked p f hav = some (ackP p f hav) := by
  unfold peer_acked ackP
  rw [if_pos (by unfold I64; omega), if_pos (by omega)]
  by_cases hc : hav ≤ gi p.acked (f - 1) ∨ p.said < hav
  · rw [if_pos hc, if_pos hc]
  · rw [if_neg hc, if_neg hc, if_pos (by unfold I64; omega), if_pos (by omega), (min_e (l := si p.acked (f - 1) hav) (by rw [len_si]; omega) (by rw [len_si]; omega)).1, bsome]
    unfold slices_DeleteFuncI
    rw [if_pos ⟨fun x hx => ⟨rfl, rfl⟩, by omega⟩, bsome]
    have : (fun x : Inp => (peer_acked_1 x (minL (si p.acked (f - 1) hav)) == some false)) = (fun i : Inp => !decide (i.turn ≤ minL (si p.acked (f - 1) hav))) := by
      funext x
      unfold peer_acked_1
      cases decide (x.turn ≤ minL (si p.acked (f - 1) hav)) <;> rfl
    rw [this]
theorem split_p {p : Per} {don : Int} {hash : UInt64} (ht : 0 ≤ p.turn ∧ p.turn ≤ 1099511627776) (hd : -1 ≤ don ∧ don ≤ 1099511627776) (hh : p.hashes.length ≤ 1000000) : peer_split p don hash = some (splB p don hash) := by
  unfold peer_split splB
  rw [if_pos (by unfold I64; omega), if_pos (by unfold I64; omega), if_pos (fun h => ⟨h.2, by omega⟩)]
theorem inP_eqs {p : Per} {n : Nte} : (inP p n).id = p.id ∧ (inP p n).players = p.players ∧ (inP p n).acked = p.acked ∧ (inP p n).mine = p.mine ∧ (inP p n).turn = p.turn ∧ (inP p n).hashes = p.hashes ∧ (inP p n).split = p.split ∧ (inP p n).said = p.said ∧ (inP p n).delay = p.delay := by
  unfold inP
  split <;> exact ⟨rfl, rfl, rfl, rfl, rfl, rfl, rfl, rfl, rfl⟩
theorem ackP_eqs {p : Per} {f hav : Int} : (ackP p f hav).id = p.id ∧ (ackP p f hav).players = p.players ∧ (ackP p f hav).inputs = p.inputs ∧ (ackP p f hav).has = p.has ∧ (ackP p f hav).turn = p.turn ∧ (ackP p f hav).hashes = p.hashes ∧ (ackP p f hav).split = p.split ∧ (ackP p f hav).said = p.said ∧ (ackP p f hav).delay = p.delay := by
  unfold ackP
  split <;> exact ⟨rfl, rfl, rfl, rfl, rfl, rfl, rfl, rfl, rfl⟩
abbrev TakeBad (p : Per) (n : Nte) : Prop := ¬ NoteOk n ∨ ¬ n.dst = p.id ∨ p.players < n.frm
theorem take_p {p : Per} {n : Nte} (hs : PerS p) (hn : InpS n.input) :
    (¬ Val p → peer_Take p n = some (nilPer, 1)) ∧ (Val p → TakeBad p n → peer_Take p n = some (nilPer, 1)) ∧ (Val p → ¬ TakeBad p n → p.turn + 16 < n.input.turn → peer_Take p n = some (nilPer, 4)) ∧
    (Val p → ¬ TakeBad p n → ¬ p.turn + 16 < n.input.turn → peer_Take p n = some (takeP p n, 0)) := by
  obtain ⟨r, er, hr⟩ := mayNote_b hn
  refine ⟨fun h => ?_, fun h hb => ?_, fun h hb hf => ?_, fun h hb hf => ?_⟩
  · unfold peer_Take
    rw [(may_b hs).f h, bsome, if_pos (by rfl), bsome, if_pos (.inl (.inl rfl))]; rfl
  · unfold peer_Take
    rw [(may_b hs).t h, bsome, if_neg (by simp), er, bsome, bsome, if_pos ?_]
    · rfl
    · rcases hb with hb | hb | hb
      · refine .inl (.inl ?_)
        cases r with
        | true => exact absurd (hr.1 rfl) hb
        | false => rfl
      · exact .inl (.inr hb)
      · exact .inr hb
  all_goals
    have hok : NoteOk n := Classical.byContradiction fun e => hb (.inl e)
    have hd : n.dst = p.id := Decidable.byContradiction fun e => hb (.inr (.inl e))
    have hfr : n.frm ≤ p.players := by
      have : ¬ p.players < n.frm := fun e => hb (.inr (.inr e))
      omega
    have hrt := hr.2 hok
    subst hrt
    have h1 := h.pl; have h2 := h.id; have h3 := h.dl; have h4 := h.tn; have h5 := h.sd; have h6 := h.hl; have h7 := h.al
    have hn1 := hok.1
  · unfold peer_Take
    rw [(may_b hs).t h, bsome, if_neg (by simp), er, bsome, bsome, if_neg (by rintro ((e | e) | e); cases e; exact e hd; omega), if_pos (by unfold I64; omega), if_pos hf]; rfl
  · have hold := h.hv (n.frm - 1) (by omega) (by omega)
    have hs3 := hs.hashes; have hs2 := hs.acked; have hs1 := hs.mine.1
    obtain ⟨q1, q2, q3, q4, q5, q6, q7, q8, q9⟩ := inP_eqs (p := p) (n := n)
    obtain ⟨k1, k2, k3, k4, k5, k6, k7, k8, k9⟩ := ackP_eqs (p := inP p n) (f := n.frm) (hav := n.hav)
    unfold peer_Take
    rw [(may_b hs).t h, bsome, if_neg (by simp), er, bsome, bsome, if_neg (by rintro ((e | e) | e); cases e; exact e hd; omega), if_pos (by unfold I64; omega), if_neg hf, own_p hs, bsome, if_pos (by unfold I64; omega), if_pos (by omega), if_pos (by unfold I64; omega)]
    refine Ok.eq (Ok.bindE (x := ((inP p n).has, (inP p n).inputs)) ?_ ?_)
    · by_cases hin : n.input.turn = gi p.has (n.frm - 1) + 1
      · obtain ⟨hiok, hipl⟩ := hok.2.2.2.2.2.2 (by omega)
        have hnh : ¬ Has p.inputs n.input := h.noHas (by omega) (by rw [hipl]; omega)
        rw [if_pos hin, (in_p hs.inputs hn h.pw).2 hnh, bsome, if_pos (by unfold I64; omega), if_pos (by omega), if_pos (by unfold I64; omega), if_pos (by omega)]
        unfold inP
        rw [if_pos hin]
      · rw [if_neg hin]
        unfold inP
        rw [if_neg hin]
    · have e1 : (⟨p.id, p.players, p.delay, p.turn, p.said, p.mine, (inP p n).inputs, (inP p n).has, p.acked, p.hashes, p.split⟩ : Per) = inP p n := by
        unfold inP
        split <;> rfl
      show Ok (Option.bind (peer_acked (⟨p.id, p.players, p.delay, p.turn, p.said, p.mine, (inP p n).inputs, (inP p n).has, p.acked, p.hashes, p.split⟩ : Per) n.frm n.hav) _) _
      rw [e1, acked_p (by rw [q3]; omega) (by rw [q3]; exact hs2) (by rw [q4]; exact hs1), bsome]
      have e2 : splB (ackP (inP p n) n.frm n.hav) n.don n.hash = splB p n.don n.hash := by
        unfold splB
        rw [k5, k6, q5, q6]
      rw [split_p (by rw [k5, q5]; exact h4) (by have := hok.2.2.1; exact this) (by rw [k6, q6]; exact hs3), e2, k7, q7]
      refine Ok.bindE (x := p.split || splB p n.don n.hash) ?_ (Ok.ret rfl)
      cases p.split <;> rfl
/-! ### Ready, Ran -/
abbrev CanGo (p : Per) : Prop := (∀ v : Int, 0 ≤ v → v < p.has.length → p.turn ≤ gi p.has v) ∧ p.turn < 1099511627776
theorem can_p {p : Per} (h : Val p) (hs : PerS p) : Bo (peer_can p) (CanGo p) := by
  have h1 := h.pl; have h6 := h.hl
  obtain ⟨e, _, hm⟩ := min_e (l := p.has) (by omega) hs.has
  unfold peer_can
  rw [e, bsome]
  refine Bo.dec ⟨fun k => ⟨fun v v0 v1 => by have := hm.2 v v0 v1; omega, k.2⟩, fun k => ⟨?_, k.2⟩⟩
  obtain ⟨⟨v, hv, e⟩, _⟩ := hm
  have := k.1 v hv.1 hv.2
  omega
def theseI (p : Per) : List Inp := p.inputs.filter (fun i => decide (i.turn = p.turn))
def othersI (p : Per) : List Inp := p.inputs.filter (fun i => !decide (i.turn = p.turn))
theorem InpsS.filter {l : List Inp} (h : InpsS l) (f : Inp → Bool) : InpsS (l.filter f) := ⟨Nat.le_trans (List.length_filter_le _ _) h.1, fun y hy => h.2 y (List.mem_filter.1 hy).1⟩
theorem ready_p {p : Per} (hs : PerS p) :
    (¬ Val p → peer_Ready p = some ([], false, 1)) ∧ (Val p → ¬ CanGo p → peer_Ready p = some ([], false, 0)) ∧ (Val p → CanGo p → peer_Ready p = some ((theseI p).flatMap (·.commands), true, 0)) := by
  unfold peer_Ready
  refine ⟨fun h => ?_, fun h hc => ?_, fun h hc => ?_⟩
  · rw [(may_b hs).f h, bsome, if_pos (by rfl)]
  · rw [(may_b hs).t h, bsome, if_neg (by simp), (can_p h hs).f hc, bsome, if_pos (by rfl)]
  · rw [(may_b hs).t h, bsome, if_neg (by simp), (can_p h hs).t hc, bsome, if_neg (by simp), part_p hs.inputs, bsome, all_p (hs.inputs.filter _), bsome]; rfl
def hashP (l : List UInt64) (x : UInt64) : List UInt64 := if 16 < ((l ++ [x]).length : Int) then (l ++ [x]).drop 1 else l ++ [x]
def ranP (p : Per) (x : UInt64) : Per := ⟨p.id, p.players, p.delay, p.turn + 1, p.said, p.mine, othersI p, p.has, p.acked, hashP p.hashes x, p.split⟩
theorem ran_p {p : Per} {x : UInt64} (hs : PerS p) :
    (¬ Val p → peer_Ran p x = some (nilPer, 1)) ∧ (Val p → ¬ CanGo p → peer_Ran p x = some (nilPer, 10)) ∧ (Val p → CanGo p → peer_Ran p x = some (ranP p x, 0)) := by
  have hs3 := hs.hashes
  unfold peer_Ran
  refine ⟨fun h => ?_, fun h hc => ?_, fun h hc => ?_⟩
  · rw [(may_b hs).f h, bsome, if_pos (by rfl)]; rfl
  · rw [(may_b hs).t h, bsome, if_neg (by simp), (can_p h hs).f hc, bsome, if_pos (by rfl)]; rfl
  · have h4 := h.tn
    rw [(may_b hs).t h, bsome, if_neg (by simp), (can_p h hs).t hc, bsome, if_neg (by simp), own_p hs, bsome, part_p hs.inputs, bsome, if_pos (by unfold I64; omega), if_pos (by omega)]
    unfold ranP hashP
    by_cases hl : 16 < ((p.hashes ++ [x]).length : Int)
    · rw [if_pos hl, if_pos hl, if_pos (by omega)]; rfl
    · rw [if_neg hl, if_neg hl]; rfl
theorem ran_v {p : Per} {x : UInt64} (h : Val p) (hc : CanGo p) : Val (ranP p x) := by
  have h1 := h.pl; have h2 := h.id; have h3 := h.dl; have h4 := h.tn; have h5 := h.sd; have h6 := h.hl; have h7 := h.al; have h8 := h.hs
  have hpw := ListOk.iff.1 h.inp
  refine ⟨h1, h2, h3, ?_, ?_, h6, h7, ?_, h.av, h.hme, h.ame, ?_, ?_, ?_, h.ml, h.mv⟩
  · show 0 ≤ p.turn + 1 ∧ p.turn + 1 ≤ 1099511627776
    have := hc.2; omega
  · show p.delay - 1 ≤ p.said ∧ p.said ≤ p.turn + 1 + p.delay - 1 ∧ p.said ≤ 1099511627776
    omega
  · intro v v0 v1
    have v1 : v < p.players := v1
    show p.delay - 1 ≤ gi p.has v ∧ p.turn + 1 - 1 ≤ gi p.has v ∧ gi p.has v ≤ p.turn + 1 + 16 ∧ gi p.has v ≤ 1099511627776
    have := h.hv v v0 v1
    have := hc.1 v v0 (by omega)
    omega
  · show ((hashP p.hashes x).length : Int) ≤ 16 ∧ ((hashP p.hashes x).length : Int) ≤ p.turn + 1
    unfold hashP
    split
    · rw [List.length_drop, List.length_append]; simp only [List.length_cons, List.length_nil]; omega
    · rename_i e
      rw [List.length_append] at e ⊢; simp only [List.length_cons, List.length_nil] at e ⊢; omega
  · exact ListOk.iff.2 ⟨fun y hy => hpw.1 y (List.mem_filter.1 hy).1, hpw.2.sublist List.filter_sublist⟩
  · have key : ∀ y ∈ othersI p, p.turn + 1 ≤ y.turn ∧ y.player ≤ p.players ∧ y.turn ≤ gi p.has (y.player - 1) := fun y hy => by
      obtain ⟨hy, hne⟩ := List.mem_filter.1 hy
      rw [Bool.not_eq_true', decide_eq_false_iff_not] at hne
      have := h.ivm y hy
      exact ⟨by omega, this.2⟩
    exact fun v v0 v1 => key _ (gi_mem ⟨v0, v1⟩)
end Go.Proofs.YtnadebijiaelkaaGreat
set_option linter.unusedVariables false
set_option linter.unusedSimpArgs false
namespace Go.Proofs.YtnadebijiaelkaaGreat
open Go.Vg
open Go
theorem within_p {a n : Int} (hn : 1 ≤ n ∧ n ≤ 1000) : Ok (thronglaw0_Within a n) fun x => 0 ≤ x ∧ x < n := by
  unfold thronglaw0_Within
  have h0 : 0 ≤ a % 18446744073709551616 := Int.emod_nonneg _ (by decide)
  have h1 : n % 18446744073709551616 = n := Int.emod_eq_of_lt (by omega) (by omega)
  rw [h1]
  have h2 : 0 ≤ a % 18446744073709551616 % n := Int.emod_nonneg _ (by omega)
  have h3 : a % 18446744073709551616 % n < n := Int.emod_lt_of_pos _ (by omega)
  exact Ok.gd ⟨h0, hn.1⟩ (Ok.gd (by unfold I64; omega) (Ok.ret ⟨h2, h3⟩))
/-- How long the lists are. -/
structure PerB (n : Int) (p : Per) : Prop where
  mine : (p.mine.length : Int) ≤ 2000 + n ∧ ∀ i ∈ p.mine, InpS i
  inputs : (p.inputs.length : Int) ≤ 2000 + n ∧ ∀ i ∈ p.inputs, InpS i
  has : p.has.length ≤ 2000
  acked : p.acked.length ≤ 2000
  hashes : p.hashes.length ≤ 2000
theorem PerB.S {n : Int} {p : Per} (h : PerB n p) (hn : n ≤ 1000) : PerS p := ⟨⟨by have := h.mine.1; omega, h.mine.2⟩, ⟨by have := h.inputs.1; omega, h.inputs.2⟩, by have := h.has; omega, by have := h.acked; omega, by have := h.hashes; omega⟩
def CmdsS (l : List Cmd) : Prop := l.length ≤ 2000 ∧ ∀ c ∈ l, CmdS c
def ActS (a : Act28) : Prop := CmdsS a.l ∧ InpS a.n.input
theorem heavy28_p {p : Scr28} (h : p.Wf) : Ok (thronglaw28_heavy p) fun b => b = false → PerB 0 p.p ∧ ∀ a ∈ p.l, ActS a := by
  obtain ⟨⟨_, _, _, _, _, hm, hi, hh, ha, hs⟩, hl, hll⟩ := h
  have g : ∀ {l : List Inp}, ((∀ y ∈ l, Inp.Wf y) ∧ l.length ≤ 140737488351232) → InpsG l := fun h => ⟨h.2, fun i hi => (h.1 i hi).G⟩
  have gc : ∀ {l : List Cmd}, (∀ y ∈ l, Cmd.Wf y) → ∀ c ∈ l, CmdG c := fun h c hc => (h c hc).2.2.2.2.1.2
  have hhl := hh.2; have hal := ha.2; have hsl := hs.2
  unfold thronglaw28_heavy
  refine Ok.bind (weightI_p (g hm)) fun x hx => ?_
  refine Ok.bind (weightI_p (g hi)) fun y hy => ?_
  refine Ok.gd (by unfold I64; omega) (Ok.gd (by unfold I64; omega) (Ok.gd (by unfold I64; omega) (Ok.gd (by unfold I64; omega) ?_)))
  refine Ok.bind (R := fun w : Int => w ≤ 2000 → (x + y + (p.p.has.length : Int) + p.p.acked.length + p.p.hashes.length ≤ 2000) ∧ ∀ u : Int, 0 ≤ u → u < p.l.length → ActS (gi p.l u))
    (Ok.loop (fun z : Int × Int => (0 ≤ z.2 ∧ z.2 ≤ p.l.length) ∧ (x + y + (p.p.has.length : Int) + p.p.acked.length + p.p.hashes.length ≤ z.1 ∧ z.1 ≤ 5000000000000000) ∧ (z.1 ≤ 2000 → ∀ u : Int, 0 ≤ u → u < z.2 → ActS (gi p.l u))) (fun z => (p.l.length - z.2).toNat) ⟨⟨Int.le_refl _, Int.natCast_nonneg _⟩, ⟨Int.le_refl _, by dsimp only; omega⟩, fun _ u u0 u1 => by have : u < 0 := u1; omega⟩ (by unfold FUEL; dsimp only; omega) ?_) ?_
  · rintro ⟨n, i⟩ ⟨⟨h0, h1⟩, ⟨h2, h3⟩, hq⟩
    dsimp only at h0 h1 h2 h3 hq ⊢
    refine Ok.ite (fun hlt => Ok.gd ⟨h0, hlt.1⟩ ?_) (fun hlt => Ok.ret fun hw => ?_)
    · have hA := hl _ (gi_mem (xs := p.l) (j := i) ⟨h0, hlt.1⟩)
      obtain ⟨_, hA1, hA2⟩ := hA
      refine Ok.bind (weightC_p hA1.2 (gc hA1.1)) fun c1 hc1 => ?_
      refine Ok.gd (by unfold I64; omega) (Ok.gd ⟨h0, hlt.1⟩ ?_)
      obtain ⟨_, _, hin, _⟩ := hA2
      refine Ok.bind (weightC_p hin.2.2.2 (gc hin.2.2.1)) fun c2 hc2 => ?_
      refine Ok.gd (by unfold I64; omega) (Ok.gd (by unfold I64; omega) (Ok.ret ⟨⟨⟨by show 0 ≤ i + 1; omega, by show i + 1 ≤ _; omega⟩, ⟨by show _ ≤ n + c1 + c2; omega, by show n + c1 + c2 ≤ _; omega⟩, fun hn u u0 u1 => ?_⟩, by show (p.l.length - (i + 1)).toNat < _; omega⟩))
      have hn : n + c1 + c2 ≤ 2000 := hn
      by_cases e : u = i
      · subst e
        refine ⟨⟨by omega, fun c hc => ?_⟩, by omega, fun c hc => ?_⟩
        · have := hc1.2.2 (by omega) c hc; unfold CmdS; omega
        · have := hc2.2.2 (by omega) c hc; unfold CmdS; omega
      · exact hq (by omega) u u0 (by have : u < i + 1 := u1; omega)
    · have hw : n ≤ 2000 := hw
      exact ⟨by omega, fun u u0 u1 => hq hw u u0 (by omega)⟩
  · intro w hw
    refine Ok.ret fun hb => ?_
    rw [decide_eq_false_iff_not] at hb
    obtain ⟨k1, k2⟩ := hw (by omega)
    have a1 := hx.2 (by omega)
    have a2 := hy.2 (by omega)
    exact ⟨⟨⟨by omega, a1.1.2⟩, ⟨by omega, a2.1.2⟩, by omega, by omega, by omega⟩, fun a ha => by
      obtain ⟨u, u0, u1, rfl⟩ := gi_mem2.1 ha
      exact k2 u u0 u1⟩
theorem InpS.copyNote {n : Nte} (h : InpS n.input) : throngref0_CopyNote n = some n := by
  unfold throngref0_CopyNote
  rw [copyI_p h, bsome]
theorem fit_p {p : Per} {a : Act28} (hs : PerS p) (hn : InpS a.n.input) : Ok (thronglaw28_fit p a) fun n => InpS n.input := by
  unfold thronglaw28_fit
  rw [hn.copyNote, bsome]
  refine Ok.bind (Nb.or (fun _ => peer_b hs)) fun b hb => ?_
  refine Ok.ite (fun _ => Ok.ret hn) (fun hc => ?_)
  have hbt : ¬ b = true := fun e => hc (.inl e)
  obtain ⟨_, h⟩ := Nb.not hb hbt
  have h1 := h.pl; have h2 := h.id; have h3 := h.dl; have h4 := h.tn; have h5 := h.sd; have h6 := h.hl; have h7 := h.al; have h8 := h.hs
  have hcl := hn.1
  refine Ok.bind (R := fun v : Int => 1 ≤ v ∧ v ≤ p.players) ?_ fun f hf => ?_
  · refine Ok.ite (fun _ => ?_) (fun e => Ok.ret (by omega))
    have m0 : 0 ≤ p.id % p.players := Int.emod_nonneg _ (by omega)
    have m1 : p.id % p.players < p.players := Int.emod_lt_of_pos _ (by omega)
    exact Ok.gd ⟨by omega, by omega, by omega⟩ (Ok.gd (by unfold I64; omega) (Ok.ret (by omega)))
  refine Ok.bind (R := fun z : Int × Int × List Cmd => InpS ⟨z.1, z.2.1, z.2.2⟩) ?_ ?_
  · refine Ok.ite (fun _ => ?_) (fun _ => Ok.ret hn)
    have hv := h.hv (f - 1) (by omega) (by omega)
    refine Ok.gd (by unfold I64; omega) (Ok.gd (by omega) (Ok.gd (by unfold I64; omega) ?_))
    refine Ok.bind (within_p (by decide)) fun x hx => ?_
    refine Ok.gd (by omega) (Ok.gd (by unfold I64; omega) ?_)
    refine Ok.bind (R := fun l : List Cmd => l.length = a.n.input.commands.length ∧ ∀ c ∈ l, CmdS c) (Ok.loop (fun z : Int × List Cmd => (0 ≤ z.1 ∧ z.1 ≤ a.n.input.commands.length) ∧ z.2.length = a.n.input.commands.length ∧ ∀ c ∈ z.2, CmdS c) (fun z => (a.n.input.commands.length - z.1).toNat) ⟨⟨Int.le_refl _, Int.natCast_nonneg _⟩, rfl, hn.2⟩ (by unfold FUEL; dsimp only; omega) ?_) fun l hl => Ok.ret ⟨by show l.length ≤ _; rw [hl.1]; exact hn.1, hl.2⟩
    rintro ⟨v, l⟩ ⟨⟨v0, v1⟩, hl, hS⟩
    dsimp only at v0 v1 hl hS ⊢
    refine Ok.ite (fun hlt => Ok.gd ⟨v0, hlt⟩ (Ok.gd (by unfold I64; omega) (Ok.ret ⟨⟨⟨by show 0 ≤ v + 1; omega, by show v + 1 ≤ _; omega⟩, by show (si l v _).length = _; rw [len_si]; exact hl, fun c hc => ?_⟩, by show (a.n.input.commands.length - (v + 1)).toNat < (a.n.input.commands.length - v).toNat; omega⟩))) (fun hlt => Ok.ret ⟨hl, hS⟩)
    rcases List.mem_or_eq_of_mem_set (show c ∈ l.set v.toNat _ from hc) with hc | rfl
    · exact hS c hc
    · exact hS (gi l v) (gi_mem ⟨v0, by omega⟩)
  rintro ⟨t, pl, l⟩ hz
  refine Ok.bind (R := fun _ => True) ?_ ?_
  · refine Ok.ite (fun _ => Ok.gd (by unfold I64; omega) ?_) (fun _ => Ok.ret trivial)
    refine Ok.bind (within_p (by decide)) fun x hx => ?_
    refine Ok.gd (by unfold I64; omega) ?_
    refine Ok.bind (R := fun _ => True) (Ok.ite (fun _ => Ok.ret trivial) (fun _ => Ok.ret trivial)) fun v _ => ?_
    exact Ok.gd (by unfold I64; omega) (Ok.gd (by unfold I64; omega) (Ok.gd ⟨by omega, by omega⟩ (Ok.ite (fun hc => Ok.gd (by omega) (Ok.ret trivial)) (fun _ => Ok.ret trivial))))
  rintro ⟨d, hh⟩ _
  refine Ok.bind (within_p (by decide)) fun x hx => ?_
  exact Ok.gd (by unfold I64; omega) (Ok.ret hz)
theorem num28_p (e : Int) : thronglaw28_num e = some e := rfl
theorem wakes28_p : thronglaw28_wakes = some true := by decide +kernel
end Go.Proofs.YtnadebijiaelkaaGreat
set_option linter.unusedVariables false
set_option linter.unusedSimpArgs false
namespace Go.Proofs.YtnadebijiaelkaaGreat
open Go.Vg
open Go
theorem say_B {n : Int} {p : Per} {l : List Cmd} (hl : CmdsS l) (h : PerB n p) : PerB (n + 1) (sayP p l) := by
  have hi : InpS (inpOf p l) := ⟨by show l.length ≤ _; have := hl.1; omega, hl.2⟩
  have hm := h.mine.1
  refine ⟨?_, ?_, by show (si p.has _ _).length ≤ _; rw [len_si]; exact h.has, by show (si p.acked _ _).length ≤ _; rw [len_si]; exact h.acked, h.hashes⟩
  · show ((if 1 < p.players then p.mine ++ [inpOf p l] else p.mine).length : Int) ≤ 2000 + (n + 1) ∧ ∀ i ∈ (if 1 < p.players then p.mine ++ [inpOf p l] else p.mine), InpS i
    split
    · refine ⟨by rw [List.length_append]; simp only [List.length_cons, List.length_nil]; omega, fun i hi2 => ?_⟩
      rcases List.mem_append.1 hi2 with hi2 | hi2
      · exact h.mine.2 i hi2
      · rw [List.mem_singleton.1 hi2]; exact hi
    · exact ⟨by omega, h.mine.2⟩
  · show ((insI p.inputs (inpOf p l)).length : Int) ≤ 2000 + (n + 1) ∧ ∀ i ∈ insI p.inputs (inpOf p l), InpS i
    refine ⟨by rw [insI_len]; have := h.inputs.1; omega, fun i hi2 => ?_⟩
    rcases List.mem_cons.1 ((insI_perm _ _).mem_iff.1 hi2) with rfl | hi2
    · exact hi
    · exact h.inputs.2 i hi2
theorem take_B {m : Int} {p : Per} {n : Nte} (hn : InpS n.input) (h : PerB m p) : PerB (m + 1) (takeP p n) := by
  have hm := h.mine.1; have hi := h.inputs.1
  obtain ⟨q1, q2, q3, q4, q5, q6, q7, q8, q9⟩ := inP_eqs (p := p) (n := n)
  obtain ⟨k1, k2, k3, k4, k5, k6, k7, k8, k9⟩ := ackP_eqs (p := inP p n) (f := n.frm) (hav := n.hav)
  refine ⟨?_, ?_, ?_, ?_, ?_⟩
  · show (((ackP (inP p n) n.frm n.hav).mine).length : Int) ≤ 2000 + (m + 1) ∧ ∀ i ∈ (ackP (inP p n) n.frm n.hav).mine, InpS i
    unfold ackP
    split
    · rw [q4]; exact ⟨by omega, h.mine.2⟩
    · dsimp only
      rw [q4]
      exact ⟨by have := List.length_filter_le (fun i : Inp => !decide (i.turn ≤ minL (si (inP p n).acked (n.frm - 1) n.hav))) p.mine; omega, fun i hi => h.mine.2 i (List.mem_filter.1 hi).1⟩
  · show (((ackP (inP p n) n.frm n.hav).inputs).length : Int) ≤ 2000 + (m + 1) ∧ ∀ i ∈ (ackP (inP p n) n.frm n.hav).inputs, InpS i
    rw [k3]
    unfold inP
    split
    · refine ⟨by show ((insI p.inputs n.input).length : Int) ≤ _; rw [insI_len]; omega, fun i hi2 => ?_⟩
      rcases List.mem_cons.1 ((insI_perm _ _).mem_iff.1 (show i ∈ insI p.inputs n.input from hi2)) with rfl | hi2
      · exact hn
      · exact h.inputs.2 i hi2
    · exact ⟨by omega, h.inputs.2⟩
  · show ((ackP (inP p n) n.frm n.hav).has).length ≤ 2000
    rw [k4]
    unfold inP
    split
    · show (si p.has _ _).length ≤ _; rw [len_si]; exact h.has
    · exact h.has
  · show ((ackP (inP p n) n.frm n.hav).acked).length ≤ 2000
    unfold ackP
    split
    · rw [q3]; exact h.acked
    · show (si (inP p n).acked _ _).length ≤ _; rw [len_si, q3]; exact h.acked
  · show ((ackP (inP p n) n.frm n.hav).hashes).length ≤ 2000
    rw [k6, q6]; exact h.hashes
theorem ran_B {m : Int} {p : Per} {x : UInt64} (hv : Val (ranP p x)) (h : PerB m p) : PerB (m + 1) (ranP p x) := by
  have hm := h.mine.1; have hi := h.inputs.1
  refine ⟨⟨by show (p.mine.length : Int) ≤ _; omega, h.mine.2⟩, ⟨by show ((othersI p).length : Int) ≤ _; have := List.length_filter_le (fun i : Inp => !decide (i.turn = p.turn)) p.inputs; unfold othersI; omega, fun i hi => h.inputs.2 i (List.mem_filter.1 hi).1⟩, h.has, h.acked, ?_⟩
  have := hv.hs; omega
end Go.Proofs.YtnadebijiaelkaaGreat
set_option linter.unusedVariables false
set_option linter.unusedSimpArgs false
namespace Go.Proofs.YtnadebijiaelkaaGreat
open Go.Vg
open Go
/-! ### Held against each other -/
theorem u64i {x y : UInt64} : ((x.toNat : Int) = (y.toNat : Int)) ↔ x = y := ⟨fun h => UInt64.toNat_inj.1 (by omega), fun h => by rw [h]⟩
theorem eqH_p {a b : List UInt64} (ha : a.length ≤ 1000000) : Bo (throngref0_EqHashes a b) (a = b) := by
  unfold throngref0_EqHashes
  refine Ok.ite (fun hn => Ok.ret ⟨fun e => (by cases e), fun e => absurd (by rw [e]) hn⟩) (fun hn => ?_)
  have hl : a.length = b.length := by omega
  refine (scanBo (a := 0) (n := a.length) (fun v => gi a v = gi b v) (by omega) (fun v v0 v1 _ => ?_) (fun v v0 v1 => by rw [if_neg (by omega)])).iff ⟨fun k => ext_gi hl fun j a b => k j a b, fun k v _ _ => by rw [k]⟩
  rw [if_pos v1]
  refine Ok.gd ⟨by omega, v1⟩ (Ok.gd ⟨by omega, by omega⟩ (Ok.ite (fun h => Ok.ret ⟨rfl, fun k => h (u64i.2 k)⟩) (fun h => Ok.gd (by unfold I64; omega) (Ok.ret ⟨rfl, u64i.1 (Decidable.not_not.1 h)⟩))))
theorem bEq {m : Option Bool} {p : Prop} [Decidable p] (h : m = some (decide p)) : Bo m p := ⟨_, h, decide_eq_true_iff⟩
theorem eqPeer_b {a b : Per} (h : PerS a) : Bo (throngref0_EqPeer a b) (a = b) := by
  have h3 := h.has; have h4 := h.acked; have h5 := h.hashes
  unfold throngref0_EqPeer
  refine Ok.bind (bAnd (fun _ => bEq (eqIs_p h.mine))) fun b1 h1 => ?_
  refine Ok.bind (bAnd (fun _ => bEq (eqIs_p h.inputs))) fun b2 h2 => ?_
  refine Ok.bind (bAnd (fun _ => bEq (eqN_p (by omega)))) fun b3 h3 => ?_
  refine Ok.bind (bAnd (fun _ => bEq (eqN_p (by omega)))) fun b4 h4 => ?_
  refine Ok.bind (bAnd (fun _ => eqH_p h5)) fun b5 h5 => ?_
  refine Bo.dec ?_
  rw [h5, h4, h3, h2, h1]
  obtain ⟨a1, a2, a3, a4, a5, a6, a7, a8, a9, a10, a11⟩ := a
  obtain ⟨c1, c2, c3, c4, c5, c6, c7, c8, c9, c10, c11⟩ := b
  simp only [Per.mk.injEq]
  constructor
  · rintro ⟨⟨⟨⟨⟨⟨⟨⟨⟨⟨k1, k2⟩, k3⟩, k4⟩, k5⟩, k6⟩, k7⟩, k8⟩, k9⟩, k10⟩, k11⟩; exact ⟨k1, k2, k3, k4, k5, k6, k7, k8, k9, k10, k11⟩
  · rintro ⟨k1, k2, k3, k4, k5, k6, k7, k8, k9, k10, k11⟩; exact ⟨⟨⟨⟨⟨⟨⟨⟨⟨⟨k1, k2⟩, k3⟩, k4⟩, k5⟩, k6⟩, k7⟩, k8⟩, k9⟩, k10⟩, k11⟩
theorem eqNote_b {a b : Nte} (h : InpS a.input) : Bo (throngref0_EqNote a b) (a = b) := by
  unfold throngref0_EqNote
  refine Ok.bind (bAnd (fun _ => bEq (eqI_p h))) fun b1 h1 => Bo.dec ?_
  rw [h1, u64i]
  obtain ⟨a1, a2, a3, a4, a5, a6⟩ := a
  obtain ⟨c1, c2, c3, c4, c5, c6⟩ := b
  simp only [Nte.mk.injEq]
  constructor
  · rintro ⟨⟨⟨⟨⟨k1, k2⟩, k3⟩, k4⟩, k5⟩, k6⟩; exact ⟨k1, k2, k3, k4, k5, k6⟩
  · rintro ⟨k1, k2, k3, k4, k5, k6⟩; exact ⟨⟨⟨⟨⟨k1, k2⟩, k3⟩, k4⟩, k5⟩, k6⟩
theorem eqNotes_t {a : List Nte} (ha : a.length ≤ 1000000) (h : ∀ n ∈ a, InpS n.input) : throngref0_EqNotes a a = some true := by
  unfold throngref0_EqNotes
  rw [if_neg (by simp)]
  refine Bo.t (p := ∀ v : Int, 0 ≤ v → v < a.length → True) (scanBo (a := 0) (n := a.length) (fun v => True) (by omega) (fun v v0 v1 _ => ?_) (fun v v0 v1 => by rw [if_neg (by omega)])) (fun _ _ _ => trivial)
  rw [if_pos v1]
  refine Ok.gd ⟨by omega, v1⟩ (Ok.gd ⟨by omega, v1⟩ ?_)
  rw [(eqNote_b (h _ (gi_mem ⟨v0, v1⟩))).t rfl, bsome, if_neg (by simp)]
  exact Ok.gd (by unfold I64; omega) (Ok.ret ⟨rfl, trivial⟩)
/-! ### Written over -/
theorem hashes28_p {a : List UInt64} (h : a.length ≤ 1000000) : thronglaw0_Hashes a = some () := by
  unfold thronglaw0_Hashes
  refine Ok.eq (Ok.bind (R := fun _ : Unit => True) (Ok.loop (fun z : Int × List UInt64 => 0 ≤ z.1 ∧ z.1 ≤ a.length) (fun z => (a.length - z.1).toNat) ⟨by simp, by simp⟩ (by unfold FUEL; simp; omega) ?_) fun x hx => Ok.ret rfl)
  rintro ⟨i, m⟩ ⟨h0, h1⟩
  dsimp only at h0 h1 ⊢
  exact Ok.ite (fun hlt => Ok.gd ⟨h0, hlt⟩ (Ok.gd (by unfold I64; omega) (Ok.ret ⟨⟨by show 0 ≤ i + 1; omega, by show i + 1 ≤ _; omega⟩, by show ((a.length : Int) - (i + 1)).toNat < _; omega⟩))) (fun _ => Ok.ret trivial)
theorem notes28_p {l : List Nte} (hl : l.length ≤ 1000000) (hs : ∀ n ∈ l, InpS n.input) : thronglaw0_Notes l = some () := by
  unfold thronglaw0_Notes
  refine Ok.eq (Ok.bind (R := fun _ : Unit => True) (Ok.loop (fun v : Int => 0 ≤ v ∧ v ≤ l.length) (fun v => (l.length - v).toNat) ⟨by simp, by simp⟩ (by unfold FUEL; simp; omega) ?_) fun x hx => Ok.ret rfl)
  rintro v ⟨v0, v1⟩
  refine Ok.ite (fun hlt => Ok.gd ⟨v0, hlt⟩ ?_) (fun _ => Ok.ret trivial)
  have := hs _ (gi_mem ⟨v0, hlt⟩)
  rw [commands_p this.1 this.2, bsome]
  exact Ok.gd (by unfold I64; omega) (Ok.ret ⟨⟨by omega, by omega⟩, by omega⟩)
theorem peer28_p {p : Per} (hs : PerS p) : thronglaw0_Peer p = some () := by
  have h3 := hs.has; have h4 := hs.acked
  unfold thronglaw0_Peer
  rw [inputs_p hs.mine, bsome, inputs_p hs.inputs, bsome, numbers27_p (by omega), bsome, numbers27_p (by omega), bsome, hashes28_p hs.hashes, bsome]
/-! ### Say -/
theorem sayR_p {p : Per} {l : List Cmd} (hs : PerS p) (hl : l.length ≤ 1000000) (hc : ∀ c ∈ l, CmdS c) (h : Val p) :
    (Shut p → throngref27_Say p l = some (p, 10)) ∧ (¬ Shut p → ¬ SaidOk p.id l → throngref27_Say p l = some (p, 1)) ∧ (¬ Shut p → SaidOk p.id l → throngref27_Say p l = some (sayP p l, 0)) := by
  have h1 := h.pl; have h2 := h.id; have h3 := h.dl; have h4 := h.tn; have h5 := h.sd; have h6 := h.hl; have h7 := h.al; have hm := hs.mine.1
  have hi : InpS (inpOf p l) := ⟨hl, hc⟩
  unfold throngref27_Say
  rw [if_pos (by unfold I64; omega), if_pos (by unfold I64; omega)]
  refine ⟨fun hsh => by rw [if_pos hsh], fun hsh hso => ?_, fun hsh hso => ?_⟩
  · rw [if_neg hsh, if_pos (by unfold I64; omega), copyCs_p hl hc, bsome, bsome]
    have : throngref27_May ⟨p.said + 1, p.id, l⟩ = some false := (mayR_b (i := inpOf p l) hi).f fun k => hso k.2
    rw [this, bsome, if_pos (by rfl)]
  · have hok : InpOk (inpOf p l) := ⟨by show (((0 ≤ p.said + 1) ∧ (p.said + 1 ≤ 1099511627776)) ∧ (1 ≤ p.id)) ∧ p.id ≤ 8; omega, hso⟩
    have hn : ¬ Has p.inputs (inpOf p l) := h.noHas (x := inpOf p l) h2 (by show gi p.has (p.id - 1) < p.said + 1; rw [h.hme]; omega)
    have hmay : throngref27_May ⟨p.said + 1, p.id, l⟩ = some true := (mayR_b (i := inpOf p l) hi).t hok
    have hput : throngref27_Put p.inputs ⟨p.said + 1, p.id, l⟩ = some (insI p.inputs (inpOf p l), 0) := (putR_p (x := inpOf p l) hs.inputs hi h.pw).2 hn
    have hcp : throngref0_CopyInput ⟨p.said + 1, p.id, l⟩ = some ⟨p.said + 1, p.id, l⟩ := copyI_p hi
    rw [if_neg hsh, if_pos (by unfold I64; omega), copyCs_p hl hc, bsome, bsome, hmay, bsome, if_neg (by simp), copyP_p hs, bsome, hput, bsome]
    have : (if 1 < p.players then Option.bind (throngref0_CopyInput ⟨p.said + 1, p.id, l⟩) fun x36 => if p.mine.length + 1 < 1099511627776 then some (p.mine ++ ([x36] : List Inp)) else none else some p.mine) = some (if 1 < p.players then p.mine ++ [inpOf p l] else p.mine) := by
      by_cases hp : 1 < p.players
      · rw [if_pos hp, if_pos hp, hcp, bsome, if_pos (by omega)]; rfl
      · rw [if_neg hp, if_neg hp]
    rw [this, bsome, if_pos (by unfold I64; omega), if_pos (by unfold I64; omega), if_pos (by omega), if_pos (by unfold I64; omega), if_pos (by omega)]
    rfl
/-! ### A note comes -/
theorem noteR_b {n : Nte} (hs : InpS n.input) : Bo (throngref27_Note n) (NoteOk n) := by
  unfold throngref27_Note NoteOk
  refine Ok.ite (fun h => Ok.ret ⟨fun e => (by cases e), fun k => by exfalso; have := k.2.2.2.2.1; omega⟩) (fun h => ?_)
  refine Ok.ite (fun ht => Bo.dec ⟨fun q => ⟨by omega, by omega, by omega, by omega, by omega, fun _ => q, fun e => absurd ht e⟩, fun q => q.2.2.2.2.2.1 ht⟩) (fun ht => ?_)
  obtain ⟨r, e, hr⟩ := mayR_b hs
  rw [e, bsome]
  refine Bo.dec ?_
  rw [hr]
  exact ⟨fun q => ⟨by omega, by omega, by omega, by omega, by omega, fun e => absurd e ht, fun _ => q⟩, fun q => q.2.2.2.2.2.2 ht⟩
theorem takeNote_p {p : Per} {n : Nte} (hs : PerS p) (hn : InpS n.input) (h : Val p) :
    (TakeBad p n → throngref27_TakeNote p n = some (p, 1)) ∧ (¬ TakeBad p n → p.turn + 16 < n.input.turn → throngref27_TakeNote p n = some (p, 4)) ∧ (¬ TakeBad p n → ¬ p.turn + 16 < n.input.turn → throngref27_TakeNote p n = some (takeP p n, 0)) := by
  have h1 := h.pl; have h2 := h.id; have h3 := h.dl; have h4 := h.tn; have h5 := h.sd; have h6 := h.hl; have h7 := h.al; have h8 := h.hs
  obtain ⟨r, er, hr⟩ := noteR_b hn
  unfold throngref27_TakeNote
  rw [er, bsome]
  refine ⟨fun hb => ?_, fun hb hf => ?_, fun hb hf => ?_⟩
  · rw [if_pos ?_]
    rcases hb with hb | hb | hb
    · refine .inl (.inl ?_)
      cases r with
      | true => exact absurd (hr.1 rfl) hb
      | false => rfl
    · exact .inl (.inr hb)
    · exact .inr hb
  all_goals
    have hok : NoteOk n := Classical.byContradiction fun e => hb (.inl e)
    have hd : n.dst = p.id := Decidable.byContradiction fun e => hb (.inr (.inl e))
    have hfr : n.frm ≤ p.players := by
      have : ¬ p.players < n.frm := fun e => hb (.inr (.inr e))
      omega
    have hrt := hr.2 hok
    subst hrt
    have hn1 := hok.1
    rw [if_neg (by rintro ((e | e) | e); cases e; exact e hd; omega), if_pos (by unfold I64; omega)]
  · rw [if_pos hf]
  · have hold := h.hv (n.frm - 1) (by omega) (by omega)
    have hs3 := hs.hashes; have hs2 := hs.acked; have hs1 := hs.mine.1
    obtain ⟨q1, q2, q3, q4, q5, q6, q7, q8, q9⟩ := inP_eqs (p := p) (n := n)
    obtain ⟨k1, k2, k3, k4, k5, k6, k7, k8, k9⟩ := ackP_eqs (p := inP p n) (f := n.frm) (hav := n.hav)
    rw [if_neg hf, copyP_p hs, bsome, if_pos (by unfold I64; omega), if_pos (by omega), if_pos (by unfold I64; omega)]
    refine Ok.eq (Ok.bindE (x := ((inP p n).has, (inP p n).inputs)) ?_ ?_)
    · by_cases hin : n.input.turn = gi p.has (n.frm - 1) + 1
      · obtain ⟨hiok, hipl⟩ := hok.2.2.2.2.2.2 (by omega)
        have hnh : ¬ Has p.inputs n.input := h.noHas (by omega) (by rw [hipl]; omega)
        rw [if_pos hin, (putR_p hs.inputs hn h.pw).2 hnh, bsome, if_pos (by omega), if_pos (by unfold I64; omega), if_pos (by omega)]
        unfold inP
        rw [if_pos hin]
      · rw [if_neg hin]
        unfold inP
        rw [if_neg hin]
    · refine Ok.gd (by omega) (Ok.bindE (x := ((ackP (inP p n) n.frm n.hav).acked, (ackP (inP p n) n.frm n.hav).mine)) ?_ ?_)
      · by_cases hk : gi p.acked (n.frm - 1) < n.hav ∧ n.hav ≤ p.said
        · have hlen : (si p.acked (n.frm - 1) n.hav).length = p.acked.length := len_si
          have hmin := min_e (l := si p.acked (n.frm - 1) n.hav) (by omega) (by omega)
          have hfil : Ok (loop (σ := List Inp × Int) (β := List Inp) (fun (l58, v60) =>
              if v60 < (p.mine.length : Int) then
              if 0 ≤ v60 ∧ v60 < (p.mine.length : Int) then
              if minL (si p.acked (n.frm - 1) n.hav) < (gi p.mine v60).turn then
              if 0 ≤ v60 ∧ v60 < (p.mine.length : Int) then
              if l58.length + 1 < 1099511627776 then
              if I64 (v60 + 1) then
              some (St.next ((l58 ++ ([(gi p.mine v60)] : List Inp)), (v60 + 1)))
              else none
              else none
              else none
              else
              if I64 (v60 + 1) then
              some (St.next (l58, (v60 + 1)))
              else none
              else none
              else
              some (St.done l58)) ([], 0)) (fun l => l = p.mine.filter fun i => !decide (i.turn ≤ minL (si p.acked (n.frm - 1) n.hav))) := by
            refine Ok.loop (fun z : List Inp × Int => (0 ≤ z.2 ∧ z.2 ≤ p.mine.length) ∧ z.1 = (p.mine.take z.2.toNat).filter fun i => !decide (i.turn ≤ minL (si p.acked (n.frm - 1) n.hav))) (fun z => (p.mine.length - z.2).toNat) ⟨by simp, by simp⟩ (by unfold FUEL; simp; omega) ?_
            rintro ⟨l, v⟩ ⟨⟨v0, v1⟩, hl⟩
            dsimp only at v0 v1 hl ⊢
            have hll : l.length ≤ p.mine.length := by rw [hl]; exact Nat.le_trans (List.length_filter_le _ _) (by rw [List.length_take]; omega)
            refine Ok.ite (fun hlt => Ok.gd ⟨v0, hlt⟩ (Ok.ite (fun hc => Ok.gd ⟨v0, hlt⟩ (Ok.gd (by omega) (Ok.gd (by unfold I64; omega) (Ok.ret ⟨⟨⟨by show 0 ≤ v + 1; omega, by show v + 1 ≤ _; omega⟩, ?_⟩, by show ((p.mine.length : Int) - (v + 1)).toNat < (p.mine.length - v).toNat; omega⟩)))) (fun hc => Ok.gd (by unfold I64; omega) (Ok.ret ⟨⟨⟨by show 0 ≤ v + 1; omega, by show v + 1 ≤ _; omega⟩, ?_⟩, by show ((p.mine.length : Int) - (v + 1)).toNat < (p.mine.length - v).toNat; omega⟩)))) (fun hge => Ok.ret ?_)
            · show l ++ [gi p.mine v] = (p.mine.take (v + 1).toNat).filter _
              rw [take_nextV ⟨v0, hlt⟩, List.filter_append, ← hl]
              congr 1
              rw [List.filter_cons_of_pos (by rw [Bool.not_eq_true', decide_eq_false_iff_not]; omega), List.filter_nil]
            · show l = (p.mine.take (v + 1).toNat).filter _
              rw [take_nextV ⟨v0, hlt⟩, List.filter_append, ← hl, List.filter_cons_of_neg (by rw [Bool.not_eq_true', decide_eq_false_iff_not]; omega), List.filter_nil, List.append_nil]
            · rw [hl, show v.toNat = p.mine.length by omega, List.take_length]
          rw [if_pos hk, if_pos (by omega), hmin.2.1, bsome, Ok.eq hfil, bsome]
          unfold ackP
          rw [q3, q8, if_neg (by omega)]
          dsimp only
          first | rw [q4, q3] | rw [q4]
        · rw [if_neg hk]
          unfold ackP
          rw [q3, q8, if_pos (by omega)]
          first | rw [q4, q3] | rw [q4]
      · dsimp only
        refine Ok.gd (by unfold I64; omega) (Ok.gd (by have := hok.2.2.1; unfold I64; omega) (Ok.gd (fun _ => by omega) ?_))
        have hsp : splB p n.don n.hash = decide ((n.don < p.turn ∧ 0 ≤ n.don - (p.turn - (p.hashes.length : Int))) ∧ ¬ ((gi p.hashes (n.don - (p.turn - (p.hashes.length : Int)))).toNat : Int) = (n.hash.toNat : Int)) := by
          unfold splB
          rw [show (p.hashes.length : Int) - (p.turn - n.don) = n.don - (p.turn - (p.hashes.length : Int)) by omega]
        have hfin : takeP p n = ⟨p.id, p.players, p.delay, p.turn, p.said, (ackP (inP p n) n.frm n.hav).mine, (inP p n).inputs, (inP p n).has, (ackP (inP p n) n.frm n.hav).acked, p.hashes, p.split || splB p n.don n.hash⟩ := by
          unfold takeP splP
          rw [k1, k2, k3, k4, k5, k6, k8, k9, q1, q2, q5, q6, q8, q9]
        rw [hfin, hsp]
        refine Ok.ite (fun hc => Ok.ret ?_) (fun hc => Ok.ret ?_)
        · rw [decide_eq_true hc, Bool.or_true]
        · rw [decide_eq_false hc, Bool.or_false]
end Go.Proofs.YtnadebijiaelkaaGreat
set_option linter.unusedVariables false
set_option linter.unusedSimpArgs false
namespace Go.Proofs.YtnadebijiaelkaaGreat
open Go.Vg
open Go
/-! ### Notes -/
def inpFor (p : Per) (k : Int) : Inp := if gi p.acked (k - 1) - minL p.acked < p.mine.length then gi p.mine (gi p.acked (k - 1) - minL p.acked) else ⟨-1, 0, []⟩
def donP (p : Per) : Int := if 0 < (p.hashes.length : Int) then p.turn - 1 else -1
def lastP (p : Per) : UInt64 := if 0 < (p.hashes.length : Int) then gi p.hashes ((p.hashes.length : Int) - 1) else 0
def noteFor (p : Per) (k : Int) : Nte := ⟨p.id, k, inpFor p k, donP p, lastP p, gi p.has (k - 1)⟩
def notesTo (p : Per) : Nat → List Nte
  | 0 => []
  | n + 1 => notesTo p n ++ if ((n : Int) + 1) = p.id then [] else [noteFor p (n + 1)]
theorem notesTo_len (p : Per) : ∀ n, (notesTo p n).length ≤ n
  | 0 => Nat.le_refl _
  | n + 1 => by
    have := notesTo_len p n
    unfold notesTo
    rw [List.length_append]
    split <;> simp <;> omega
theorem inpFor_S {p : Per} (hs : PerS p) (h : Val p) {k : Int} (hk : 1 ≤ k ∧ k ≤ p.players) : InpS (inpFor p k) := by
  unfold inpFor
  have hmn := h.mn.2 (k - 1) (by omega) (by have := h.al; omega)
  split
  · exact hs.mine.2 _ (gi_mem ⟨by omega, by assumption⟩)
  · exact ⟨by simp, fun c hc => by cases hc⟩
theorem notesTo_S {p : Per} (hs : PerS p) (h : Val p) : ∀ n : Nat, (n : Int) ≤ p.players → ∀ m ∈ notesTo p n, InpS m.input
  | 0, _, m, hm => by cases hm
  | n + 1, hn, m, hm => by
    unfold notesTo at hm
    rcases List.mem_append.1 hm with hm | hm
    · exact notesTo_S hs h n (by omega) m hm
    · split at hm
      · cases hm
      · rw [List.mem_singleton.1 hm]; exact inpFor_S hs h (by omega)
theorem hash_eq {p : Per} (h : Val p) : (if 0 < (p.hashes.length : Int) then if I64 (p.turn - 1) then if I64 ((p.hashes.length : Int) - 1) then if 0 ≤ ((p.hashes.length : Int) - 1) ∧ ((p.hashes.length : Int) - 1) < (p.hashes.length : Int) then some ((p.turn - 1), (gi p.hashes ((p.hashes.length : Int) - 1))) else none else none else none else some ((-1), (0 : UInt64))) = some (donP p, lastP p) := by
  have h4 := h.tn; have h8 := h.hs
  unfold donP lastP
  by_cases hc : 0 < (p.hashes.length : Int)
  · rw [if_pos hc, if_pos hc, if_pos hc, if_pos (by unfold I64; omega), if_pos (by unfold I64; omega), if_pos (by omega)]
  · rw [if_neg hc, if_neg hc, if_neg hc]
/-- Which of its own inputs another one lacks. -/
theorem mine_at {p : Per} (h : Val p) {k v : Int} (hk : 1 ≤ k ∧ k ≤ p.players) (hv : 0 ≤ v ∧ v < p.mine.length) : (gi p.mine v).turn = gi p.acked (k - 1) + 1 ↔ v = gi p.acked (k - 1) - minL p.acked := by
  have := (h.mv v hv.1 hv.2).2.2
  omega
theorem next_note {p : Per} {k : Int} (hk : 1 ≤ k) : notesTo p k.toNat = notesTo p (k - 1).toNat ++ if k = p.id then [] else [noteFor p k] := by
  obtain ⟨n, rfl⟩ : ∃ n : Nat, k = n + 1 := ⟨(k - 1).toNat, by omega⟩
  rw [show ((n : Int) + 1).toNat = n + 1 by omega, show ((n : Int) + 1 - 1).toNat = n by omega]; rfl
theorem notesR_p {p : Per} (hs : PerS p) (h : Val p) : throngref27_Notes p = some (notesTo p p.players.toNat) := by
  have h1 := h.pl; have h4 := h.tn; have h6 := h.hl; have h7 := h.al; have hm := hs.mine.1
  unfold throngref27_Notes
  refine Ok.eq (Ok.bind (Ok.loop (fun z : List Nte × Int => (1 ≤ z.2 ∧ z.2 ≤ p.players + 1) ∧ z.1 = notesTo p (z.2 - 1).toNat) (fun z => (p.players + 1 - z.2).toNat) ⟨⟨by show (1 : Int) ≤ 1; omega, by show 1 ≤ p.players + 1; omega⟩, rfl⟩ (by unfold FUEL; dsimp only; omega) ?_) (fun l hl => Ok.ret hl))
  rintro ⟨l, k⟩ ⟨⟨k0, k1⟩, hl⟩
  dsimp only at k0 k1 hl ⊢
  refine Ok.ite (fun hk => ?_) (fun hk => Ok.ret ?_)
  · have hnx := next_note (p := p) k0
    refine Ok.ite (fun he => Ok.gd (by unfold I64; omega) (Ok.ret ⟨⟨⟨by show 1 ≤ k + 1; omega, by show k + 1 ≤ _; omega⟩, ?_⟩, by show (p.players + 1 - (k + 1)).toNat < (p.players + 1 - k).toNat; omega⟩)) (fun he => ?_)
    · show l = notesTo p (k + 1 - 1).toNat
      rw [show k + 1 - 1 = k by omega, hnx, if_pos he, List.append_nil]; exact hl
    · have ha := h.av (k - 1) (by omega) (by omega)
      have hdl := h.dl; have hsd := h.sd
      have hmn := h.mn.2 (k - 1) (by omega) (by omega)
      refine Ok.gd (by unfold I64; omega) (Ok.gd (by omega) ?_)
      rw [hash_eq h, bsome]
      dsimp only
      refine Ok.bindE (x := ((inpFor p k).turn, (inpFor p k).player, (inpFor p k).commands)) ?_ ?_
      · refine Ok.eq (Ok.loop (fun z : Int × Int × Int × List Cmd => (0 ≤ z.1 ∧ z.1 ≤ p.mine.length) ∧ (z.2.1, z.2.2.1, z.2.2.2) = if gi p.acked (k - 1) - minL p.acked < z.1 then ((inpFor p k).turn, (inpFor p k).player, (inpFor p k).commands) else (-1, 0, [])) (fun z => (p.mine.length - z.1).toNat) ⟨⟨by show (0 : Int) ≤ 0; omega, by show (0 : Int) ≤ _; omega⟩, by rw [if_neg (by dsimp only; omega)]⟩ (by unfold FUEL; dsimp only; omega) ?_)
        rintro ⟨v, a, b, c⟩ ⟨⟨v0, v1⟩, hz⟩
        dsimp only at v0 v1 hz ⊢
        refine Ok.ite (fun hlt => ?_) (fun hge => Ok.ret ?_)
        · have hat := mine_at h (k := k) ⟨k0, hk⟩ ⟨v0, hlt⟩
          refine Ok.gd ⟨v0, hlt⟩ (Ok.gd (by unfold I64; omega) (Ok.gd (by omega) (Ok.gd (by unfold I64; omega) (Ok.ite (fun hc => Ok.gd ⟨v0, hlt⟩ ?_) (fun hc => Ok.gd (by unfold I64; omega) (Ok.ret ⟨⟨⟨by show 0 ≤ v + 1; omega, by show v + 1 ≤ _; omega⟩, ?_⟩, by show ((p.mine.length : Int) - (v + 1)).toNat < (p.mine.length - v).toNat; omega⟩))))))
          · rw [copyI_p (hs.mine.2 _ (gi_mem ⟨v0, hlt⟩)), bsome]
            refine Ok.gd (by unfold I64; omega) (Ok.ret ⟨⟨⟨by show 0 ≤ v + 1; omega, by show v + 1 ≤ _; omega⟩, ?_⟩, by show ((p.mine.length : Int) - (v + 1)).toNat < (p.mine.length - v).toNat; omega⟩)
            have e := hat.1 hc
            show ((gi p.mine v).turn, (gi p.mine v).player, (gi p.mine v).commands) = _
            rw [if_pos (by show _ < v + 1; omega)]
            unfold inpFor
            rw [if_pos (by omega), ← e]
          · show (a, b, c) = _
            rw [hz]
            have : ¬ v = gi p.acked (k - 1) - minL p.acked := fun e => hc (hat.2 e)
            by_cases hb : gi p.acked (k - 1) - minL p.acked < v
            · rw [if_pos hb, if_pos (by show _ < v + 1; omega)]
            · rw [if_neg hb, if_neg (by show ¬ _ < v + 1; omega)]
        · show (a, b, c) = _
          rw [hz]
          by_cases hb : gi p.acked (k - 1) - minL p.acked < v
          · rw [if_pos hb]
          · rw [if_neg hb]
            unfold inpFor
            rw [if_neg (by omega)]
      · dsimp only
        have := notesTo_len p (k - 1).toNat
        refine Ok.gd (by rw [hl]; omega) (Ok.gd (by unfold I64; omega) (Ok.ret ⟨⟨⟨by show 1 ≤ k + 1; omega, by show k + 1 ≤ _; omega⟩, ?_⟩, by show (p.players + 1 - (k + 1)).toNat < (p.players + 1 - k).toNat; omega⟩))
        show l ++ _ = notesTo p (k + 1 - 1).toNat
        rw [show k + 1 - 1 = k by omega, hnx, if_neg he, hl]; rfl
  · rw [hl, show k - 1 = p.players by omega]
theorem index_p {l : List Inp} {f : Inp → Option Bool} {i : Int} (hl : l.length ≤ 1000000) (hi : 0 ≤ i) (hf : ∀ v : Int, 0 ≤ v → v < l.length → f (gi l v) = some (decide (v = i))) : slices_IndexFunc l f = some (if i < l.length then i else -1) := by
  unfold slices_IndexFunc
  refine Ok.eq (Ok.bind (R := fun x => match x with | .up v => v = i ∧ i < l.length | .go _ => ¬ i < l.length) (Ok.loop (fun v : Int => (0 ≤ v ∧ v ≤ l.length) ∧ v ≤ i) (fun v => (l.length - v).toNat) ⟨⟨by omega, by omega⟩, hi⟩ (by unfold FUEL; omega) ?_) ?_)
  · rintro v ⟨⟨v0, v1⟩, v2⟩
    refine Ok.ite (fun hlt => Ok.gd ⟨v0, hlt⟩ ?_) (fun hge => Ok.ret (by show ¬ i < _; omega))
    rw [hf v v0 hlt, bsome]
    refine Ok.ite (fun hc => Ok.ret ?_) (fun hc => Ok.gd (by unfold I64; omega) (Ok.ret ⟨⟨⟨by omega, by omega⟩, ?_⟩, by omega⟩))
    · have := of_decide_eq_true hc
      exact ⟨this, by omega⟩
    · have : ¬ v = i := fun e => hc (decide_eq_true e)
      omega
  · rintro (⟨⟩ | v) hv
    · dsimp only [Ex.then]; exact Ok.ret (by rw [if_neg hv])
    · dsimp only [Ex.then]; exact Ok.ret (by rw [if_pos hv.2, hv.1])
theorem notesP_p {p : Per} (hs : PerS p) : (¬ Val p → peer_Notes p = some ([], 1)) ∧ (Val p → peer_Notes p = some (notesTo p p.players.toNat, 0)) := by
  unfold peer_Notes
  refine ⟨fun h => ?_, fun h => ?_⟩
  · rw [(may_b hs).f h, bsome, if_pos (by rfl)]
  have h1 := h.pl; have h4 := h.tn; have h6 := h.hl; have h7 := h.al; have hm := hs.mine.1
  rw [(may_b hs).t h, bsome, if_neg (by simp)]
  refine Ok.eq (Ok.bind (R := fun z : Int × List Nte => z.2 = notesTo p p.players.toNat) (Ok.loop (fun z : List Nte × Int => (1 ≤ z.2 ∧ z.2 ≤ p.players + 1) ∧ z.1 = notesTo p (z.2 - 1).toNat) (fun z => (p.players + 1 - z.2).toNat) ⟨⟨by show (1 : Int) ≤ 1; omega, by show 1 ≤ p.players + 1; omega⟩, rfl⟩ (by unfold FUEL; dsimp only; omega) ?_) (fun z hz => ?_))
  · rintro ⟨l, k⟩ ⟨⟨k0, k1⟩, hl⟩
    dsimp only at k0 k1 hl ⊢
    refine Ok.ite (fun hk => ?_) (fun hk => Ok.ret ?_)
    · have hnx := next_note (p := p) k0
      refine Ok.ite (fun he => Ok.gd (by unfold I64; omega) (Ok.ret ⟨⟨⟨by show 1 ≤ k + 1; omega, by show k + 1 ≤ _; omega⟩, ?_⟩, by show (p.players + 1 - (k + 1)).toNat < (p.players + 1 - k).toNat; omega⟩)) (fun he => ?_)
      · show l = notesTo p (k + 1 - 1).toNat
        rw [show k + 1 - 1 = k by omega, hnx, if_pos he, List.append_nil]; exact hl
      · have ha := h.av (k - 1) (by omega) (by omega)
        have hdl := h.dl; have hsd := h.sd
        have hmn := h.mn.2 (k - 1) (by omega) (by omega)
        refine Ok.gd (by unfold I64; omega) (Ok.gd (by omega) ?_)
        rw [hash_eq h, bsome]
        dsimp only
        have hidx : slices_IndexFunc p.mine (fun y0 => peer_Notes_1 y0 p k) = some (if gi p.acked (k - 1) - minL p.acked < p.mine.length then gi p.acked (k - 1) - minL p.acked else -1) := by
          refine index_p hm (by omega) fun v v0 v1 => ?_
          show peer_Notes_1 (gi p.mine v) p k = _
          unfold peer_Notes_1
          rw [if_pos (by unfold I64; omega), if_pos (by omega), if_pos (by unfold I64; omega)]
          congr 1
          exact decide_eq_decide.2 (mine_at h ⟨k0, hk⟩ ⟨v0, v1⟩)
        rw [hidx, bsome]
        refine Ok.bindE (x := ((inpFor p k).turn, (inpFor p k).player, (inpFor p k).commands)) ?_ ?_
        · unfold inpFor
          by_cases hb : gi p.acked (k - 1) - minL p.acked < p.mine.length
          · rw [if_pos hb, if_pos hb, if_pos (by omega), if_pos (by omega), ownI_p (hs.mine.2 _ (gi_mem ⟨by omega, hb⟩)), bsome]
          · rw [if_neg hb, if_neg hb, if_neg (by omega)]
        · dsimp only
          have := notesTo_len p (k - 1).toNat
          refine Ok.gd (by rw [hl]; omega) (Ok.gd (by unfold I64; omega) (Ok.ret ⟨⟨⟨by show 1 ≤ k + 1; omega, by show k + 1 ≤ _; omega⟩, ?_⟩, by show (p.players + 1 - (k + 1)).toNat < (p.players + 1 - k).toNat; omega⟩))
          show l ++ _ = notesTo p (k + 1 - 1).toNat
          rw [show k + 1 - 1 = k by omega, hnx, if_neg he, hl]; rfl
    · show l = _
      rw [hl, show k - 1 = p.players by omega]
  · obtain ⟨a, b⟩ := z
    have hz : b = notesTo p p.players.toNat := hz
    exact Ok.ret (by rw [hz])
/-! ### Ready, Ran -/
theorem theseI_merge {p : Per} (hs : PerS p) (h : Val p) (hl : p.inputs.length < 1000000) : throngref27_Merge (theseI p) = some ((theseI p).flatMap (·.commands), true) := by
  have hS : InpsS (theseI p) := hs.inputs.filter _
  have hlo := ListOk.iff.1 h.inp
  have hpw : (theseI p).Pairwise InLt := hlo.2.sublist List.filter_sublist
  obtain ⟨r, e, _, hr⟩ := mergeR_p hS (by
    have := List.length_filter_le (fun i : Inp => decide (i.turn = p.turn)) p.inputs
    show (p.inputs.filter _).length < _
    omega)
  have hM : MOk (theseI p) := by
    refine ⟨fun x hx => ⟨hlo.1 x (List.mem_filter.1 hx).1, fun y hy => ?_⟩, KD.of hpw⟩
    have a := of_decide_eq_true (List.mem_filter.1 hx).2
    have b := of_decide_eq_true (List.mem_filter.1 hy).2
    omega
  obtain ⟨s, hp, hw, rfl⟩ := hr hM
  have : s = theseI p := List.Perm.eq_of_pairwise (le := InLt) (fun a b _ _ h k => by unfold InLt at h k; omega) hw hpw hp
  rw [e, this]
open Classical in
theorem readyR_p {p : Per} (hs : PerS p) (h : Val p) (hl : p.inputs.length < 1000000) : (¬ CanGo p → throngref27_Ready p = some ([], false)) ∧ (CanGo p → throngref27_Ready p = some ((theseI p).flatMap (·.commands), true)) := by
  have h1 := h.pl; have h4 := h.tn; have h6 := h.hl
  obtain ⟨_, e, hm⟩ := min_e (l := p.has) (by omega) hs.has
  have hb : (if 1099511627776 ≤ p.turn then some true else Option.bind (throngref27_least p.has) fun x12 => some (decide (x12 < p.turn))) = some (!decide (CanGo p)) := by
    obtain ⟨⟨v, hv, ev⟩, hle⟩ := hm
    by_cases hc : 1099511627776 ≤ p.turn
    · rw [if_pos hc, decide_eq_false (fun k : CanGo p => by have := k.2; omega)]; rfl
    · rw [if_neg hc, e, bsome]
      congr 1
      by_cases hk : minL p.has < p.turn
      · rw [decide_eq_true hk, decide_eq_false (fun k : CanGo p => by have := k.1 v hv.1 hv.2; omega)]; rfl
      · rw [decide_eq_false hk, decide_eq_true (show CanGo p from ⟨fun u u0 u1 => by have := hle u u0 u1; omega, by omega⟩)]; rfl
  unfold throngref27_Ready
  rw [hb, bsome]
  refine ⟨fun hc => by rw [if_pos (by rw [decide_eq_false hc]; rfl)], fun hc => ?_⟩
  rw [if_neg (by rw [decide_eq_true hc]; simp), takeR_p hs.inputs, bsome]
  have := theseI_merge hs h hl
  unfold theseI at this
  rw [this, bsome]; rfl
theorem ranR_p {p : Per} {x : UInt64} (hs : PerS p) (h : Val p) (hl : p.inputs.length < 1000000) : (¬ CanGo p → throngref27_Ran p x = some (p, false)) ∧ (CanGo p → throngref27_Ran p x = some (ranP p x, true)) := by
  have h4 := h.tn; have hs3 := hs.hashes
  unfold throngref27_Ran
  refine ⟨fun hc => by rw [(readyR_p hs h hl).1 hc, bsome, if_pos (by rfl)], fun hc => ?_⟩
  rw [(readyR_p hs h hl).2 hc, bsome, if_neg (by simp), copyP_p hs, bsome, takeR_p hs.inputs, bsome, if_pos (by unfold I64; omega), if_pos (by omega)]
  unfold ranP hashP
  by_cases h16 : 16 < ((p.hashes ++ [x]).length : Int)
  · rw [if_pos h16, if_pos h16, if_pos (by omega)]; rfl
  · rw [if_neg h16, if_neg h16]; rfl
end Go.Proofs.YtnadebijiaelkaaGreat
set_option linter.unusedVariables false
set_option linter.unusedSimpArgs false
namespace Go.Proofs.YtnadebijiaelkaaGreat
open Go.Vg
open Go
def Alike (m : Int) (bad e : Int) (want x : Per) : Prop := e = bad ∧ x = (if bad = 0 then want else nilPer) ∧ (bad = 0 → PerB (m + 1) want)
theorem PerB.up {m : Int} {p : Per} (h : PerB m p) : PerB (m + 1) p := ⟨⟨by have := h.mine.1; omega, h.mine.2⟩, ⟨by have := h.inputs.1; omega, h.inputs.2⟩, h.has, h.acked, h.hashes⟩
theorem nilS : PerS nilPer := ⟨⟨by simp [nilPer], fun i hi => by cases hi⟩, ⟨by simp [nilPer], fun i hi => by cases hi⟩, by simp [nilPer], by simp [nilPer], by simp [nilPer]⟩
theorem alike_bad {m bad : Int} {want : Per} (h : ¬ bad = 0) : Alike m bad bad want nilPer := ⟨rfl, by rw [if_neg h], fun e => absurd e h⟩
theorem alike_ok {m : Int} {want : Per} (h : PerB (m + 1) want) : Alike m 0 0 want want := ⟨rfl, by rw [if_pos rfl], fun _ => h⟩
theorem take_both {m : Int} {p : Per} {n : Nte} (hm : m ≤ 100) (hb : PerB m p) (hn : InpS n.input) (h : Val p) : ∃ r y, throngref27_TakeNote p n = some r ∧ peer_Take p n = some y ∧ Alike m r.2 y.2 r.1 y.1 := by
  have hs := hb.S (by omega)
  obtain ⟨_, s2, s3, s4⟩ := take_p (n := n) hs hn
  obtain ⟨t2, t3, t4⟩ := takeNote_p (n := n) hs hn h
  by_cases hbd : TakeBad p n
  · exact ⟨_, _, t2 hbd, s2 h hbd, alike_bad (by simp)⟩
  by_cases hf : p.turn + 16 < n.input.turn
  · exact ⟨_, _, t3 hbd hf, s3 h hbd hf, alike_bad (by simp)⟩
  · exact ⟨_, _, t4 hbd hf, s4 h hbd hf, alike_ok (take_B hn hb)⟩
theorem say_both {m : Int} {p : Per} {l : List Cmd} (hm : m ≤ 100) (hb : PerB m p) (hl : CmdsS l) (h : Val p) : ∃ r y, throngref27_Say p l = some r ∧ peer_Say p l = some y ∧ Alike m r.2 y.2 r.1 y.1 := by
  have hs := hb.S (by omega)
  obtain ⟨_, s2, s3, s4⟩ := say_p (l := l) hs (by have := hl.1; omega) hl.2
  obtain ⟨t2, t3, t4⟩ := sayR_p (l := l) hs (by have := hl.1; omega) hl.2 h
  by_cases hsh : Shut p
  · exact ⟨_, _, t2 hsh, s2 h hsh, alike_bad (by simp)⟩
  by_cases hso : SaidOk p.id l
  · exact ⟨_, _, t4 hsh hso, s4 h hsh hso, alike_ok (say_B hl hb)⟩
  · exact ⟨_, _, t3 hsh hso, s3 h hsh hso, alike_bad (by simp)⟩
theorem ready_len {m : Int} {p : Per} (hm : m ≤ 100) (hb : PerB m p) (h : Val p) : ((theseI p).flatMap (·.commands)).length ≤ 1000000 ∧ ∀ c ∈ (theseI p).flatMap (·.commands), CmdS c := by
  have hlo := ListOk.iff.1 h.inp
  have h1 := flat_len (n := 64) (l := theseI p) fun i hi => by
    have := (hlo.1 i (List.mem_filter.1 hi).1).2.1
    omega
  have h2 := List.length_filter_le (fun i : Inp => decide (i.turn = p.turn)) p.inputs
  have h3 := hb.inputs.1
  refine ⟨?_, flat_S ((hb.S (by omega)).inputs.filter _)⟩
  have : (theseI p).length ≤ p.inputs.length := h2
  omega
theorem fin_p {m : Int} {p : Per} {bad e : Int} {want x : Per} (hm : m ≤ 100) (hb : PerB m p) (h : Alike m bad e want x) {want2 : Per} (h2 : want2 = if bad = 0 then want else nilPer) {K : Bool → Option (Per × Bool)}
    (hK : Ok (K true) (fun r => r.2 = true ∧ PerB (m + 1) r.1)) :
    Ok (Option.bind (thronglaw28_num e) fun x78 => Option.bind (if x78 = bad then Option.bind (throngref0_EqPeer x want2) fun x95 => Option.bind (if x95 = true then some true else Option.bind (if ¬ bad = 0 then Option.bind (throngref0_EqPeer x p) fun x104 => some x104 else some false) fun b102 => some b102) fun b98 => some b98 else some false) fun b81 =>
      Option.bind (if b81 = true then Option.bind (throngref0_EqPeer p p) fun x93 => some x93 else some false) fun b84 => Option.bind (thronglaw0_Peer x) fun _ => K b84) (fun r => r.2 = true ∧ PerB (m + 1) r.1) := by
  obtain ⟨rfl, hx, hw⟩ := h
  have hs := hb.S (by omega)
  have hxs : PerS x := by
    rw [hx]
    split
    · rename_i h0; exact (hw h0).S (by omega)
    · exact nilS
  rw [num28_p, bsome, if_pos rfl, (eqPeer_b hxs).t (hx.trans h2.symm), bsome, if_pos rfl, bsome, bsome, if_pos rfl, (eqPeer_b hs).t rfl, bsome, bsome, peer28_p hxs, bsome]
  exact hK
theorem step_p {m : Int} {p : Per} {a : Act28} (hm : m ≤ 100) (hb : PerB m p) (ha : ActS a) : Ok (thronglaw28_step p a) (fun r => r.2 = true ∧ PerB (m + 1) r.1) := by
  have hs := hb.S (by omega)
  have hself : throngref0_EqPeer p p = some true := (eqPeer_b hs).t rfl
  have hmi := hb.inputs.1
  unfold thronglaw28_step
  rw [copyP_p hs, bsome]
  obtain ⟨v, ev, hv⟩ := peer_b hs
  rw [ev, bsome]
  refine Ok.bind (within_p (by decide)) fun t ht => ?_
  refine Ok.bind (R := fun y => match y with
    | .up r => r.2 = true ∧ PerB (m + 1) r.1
    | .go (bad, e, a1, a2, a3, a4, a5, a6, x1, x2, x3, x4, x5, x6, w1, w2, w3, w4, w5, u1, u2, u3, u4, u5) => Alike m bad e ⟨a1, a2, a3, a4, a5, w1, w2, w3, w4, w5, a6⟩ ⟨x1, x2, x3, x4, x5, u1, u2, u3, u4, u5, x6⟩) ?_ ?_
  · refine Ok.bind (R := fun _ => True) (Ok.ite (fun _ => Ok.ret trivial) fun _ => Ok.ite (fun _ => Ok.ret trivial) fun _ => Ok.ret trivial) fun c _ => ?_
    refine Ok.ite (fun _ => ?_) (fun _ => ?_)
    · -- a note comes
      refine Ok.bind (fit_p hs ha.2) fun n hn => ?_
      have key : ∃ (bad : Int) (want : Per), (if v = true then Option.bind (throngref27_TakeNote p n) fun x148 => some (x148.2, x148.1.id, x148.1.players, x148.1.delay, x148.1.turn, x148.1.said, x148.1.split, x148.1.mine, x148.1.inputs, x148.1.has, x148.1.acked, x148.1.hashes) else some (1, 0, 0, 0, 0, 0, false, [], [], [], [], [])) = some (bad, want.id, want.players, want.delay, want.turn, want.said, want.split, want.mine, want.inputs, want.has, want.acked, want.hashes) ∧ ∃ y, peer_Take p n = some y ∧ Alike m bad y.2 want y.1 := by
        cases v with
        | true =>
          obtain ⟨r, y, h1, h2, h3⟩ := take_both hm hb hn (hv.1 rfl)
          exact ⟨r.2, r.1, by rw [if_pos rfl, h1, bsome], y, h2, h3⟩
        | false =>
          have hnv : ¬ Val p := fun k => by have := hv.2 k; cases this
          exact ⟨1, nilPer, by rw [if_neg (by simp)]; rfl, _, (take_p (n := n) hs hn).1 hnv, alike_bad (by simp)⟩
      obtain ⟨bad, want, hE, y, hy, hal⟩ := key
      rw [hE, bsome]
      dsimp only
      rw [hn.copyNote, bsome, hy, bsome, (eqNote_b hn).t rfl, bsome, if_neg (by simp), commands_p hn.1 hn.2, bsome]
      exact Ok.ret hal
    refine Ok.ite (fun _ => ?_) (fun _ => ?_)
    · -- what it has to say
      have key : ∃ (cd : Int) (l : List Nte), (if v = true then Option.bind (throngref27_Notes p) fun x189 => some ((0 : Int), x189) else some (1, [])) = some (cd, l) ∧ peer_Notes p = some (l, cd) ∧ l.length ≤ 1000000 ∧ ∀ n ∈ l, InpS n.input := by
        cases v with
        | true =>
          have h := hv.1 rfl
          have hp := h.pl
          exact ⟨0, _, by rw [if_pos rfl, notesR_p hs h, bsome], (notesP_p hs).2 h, by have := notesTo_len p p.players.toNat; omega, notesTo_S hs h _ (by omega)⟩
        | false =>
          have hnv : ¬ Val p := fun k => by have := hv.2 k; cases this
          exact ⟨1, [], by rw [if_neg (by simp)], (notesP_p hs).1 hnv, by simp, fun n hn => by cases hn⟩
      obtain ⟨cd, l, hE, hy, hl1, hl2⟩ := key
      rw [hE, bsome]
      dsimp only
      rw [hy, bsome, num28_p, bsome, if_pos rfl, eqNotes_t hl1 hl2, bsome, bsome, if_pos rfl, hself, bsome, bsome, notes28_p hl1 hl2, bsome, if_pos rfl, bsome]
      exact Ok.ret ⟨rfl, hb.up⟩
    refine Ok.ite (fun _ => ?_) (fun _ => ?_)
    · -- whether it is ready
      have key : ∃ (cd : Int) (b : Bool) (l : List Cmd), (if v = true then Option.bind (throngref27_Ready p) fun x219 => some ((0 : Int), x219.2, x219.1) else some (1, false, [])) = some (cd, b, l) ∧ peer_Ready p = some (l, b, cd) ∧ l.length ≤ 1000000 ∧ ∀ c ∈ l, CmdS c := by
        obtain ⟨r1, r2, r3⟩ := ready_p hs
        cases v with
        | true =>
          have h := hv.1 rfl
          obtain ⟨q1, q2⟩ := readyR_p hs h (by omega)
          by_cases hc : CanGo p
          · have := ready_len hm hb h
            exact ⟨0, true, _, by rw [if_pos rfl, q2 hc, bsome], r3 h hc, this.1, this.2⟩
          · exact ⟨0, false, [], by rw [if_pos rfl, q1 hc, bsome], r2 h hc, by simp, fun n hn => by cases hn⟩
        | false =>
          have hnv : ¬ Val p := fun k => by have := hv.2 k; cases this
          exact ⟨1, false, [], by rw [if_neg (by simp)], r1 hnv, by simp, fun n hn => by cases hn⟩
      obtain ⟨cd, b, l, hE, hy, hl1, hl2⟩ := key
      rw [hE, bsome]
      dsimp only
      have heq : throngref0_EqCommands l l = some true := (bEq (eqCs_p hl1 hl2)).t rfl
      rw [hy, bsome]
      dsimp only
      rw [num28_p, bsome, if_pos ⟨rfl, rfl⟩, heq, bsome, bsome, if_pos rfl, hself, bsome, bsome, commands_p hl1 hl2, bsome, if_pos rfl, bsome]
      exact Ok.ret ⟨rfl, hb.up⟩
    refine Ok.bind (R := fun _ => True) (Ok.ite (fun _ => Ok.ret trivial) fun _ => Ok.ret trivial) fun c2 _ => ?_
    refine Ok.ite (fun _ => ?_) (fun _ => ?_)
    · -- it has executed
      obtain ⟨r1, r2, r3⟩ := ran_p (x := a.h) hs
      refine Ok.ite (fun hvt => ?_) (fun hvt => ?_)
      · have h := hv.1 hvt
        obtain ⟨q1, q2⟩ := ranR_p (x := a.h) hs h (by omega)
        by_cases hc : CanGo p
        · rw [q2 hc, bsome, if_neg (by simp), r3 h hc, bsome]
          exact Ok.ret (alike_ok (ran_B (ran_v h hc) hb))
        · rw [q1 hc, bsome, if_pos (by rfl), r2 h hc, bsome]
          exact Ok.ret (alike_bad (want := p) (by simp))
      · have hnv : ¬ Val p := fun k => hvt (hv.2 k)
        rw [r1 hnv, bsome]
        exact Ok.ret (alike_bad (want := nilPer) (by simp))
    · -- it says something
      have key : ∃ (bad : Int) (want : Per), (if v = true then Option.bind (throngref27_Say p a.l) fun x148 => some (x148.2, x148.1.id, x148.1.players, x148.1.delay, x148.1.turn, x148.1.said, x148.1.split, x148.1.mine, x148.1.inputs, x148.1.has, x148.1.acked, x148.1.hashes) else some (1, 0, 0, 0, 0, 0, false, [], [], [], [], [])) = some (bad, want.id, want.players, want.delay, want.turn, want.said, want.split, want.mine, want.inputs, want.has, want.acked, want.hashes) ∧ ∃ y, peer_Say p a.l = some y ∧ Alike m bad y.2 want y.1 := by
        cases v with
        | true =>
          obtain ⟨r, y, h1, h2, h3⟩ := say_both hm hb ha.1 (hv.1 rfl)
          exact ⟨r.2, r.1, by rw [if_pos rfl, h1, bsome], y, h2, h3⟩
        | false =>
          have hnv : ¬ Val p := fun k => by have := hv.2 k; cases this
          exact ⟨1, nilPer, by rw [if_neg (by simp)]; rfl, _, (say_p (l := a.l) hs (by have := ha.1.1; omega) ha.1.2).1 hnv, alike_bad (by simp)⟩
      obtain ⟨bad, want, hE, y, hy, hal⟩ := key
      have hal1 : a.l.length ≤ 1000000 := by have := ha.1.1; omega
      have heq : throngref0_EqCommands a.l a.l = some true := (bEq (eqCs_p hal1 ha.1.2)).t rfl
      rw [hE, bsome]
      dsimp only
      rw [copyCs_p hal1 ha.1.2, bsome, hy, bsome, heq, bsome, if_neg (by simp), commands_p hal1 ha.1.2, bsome]
      exact Ok.ret hal
  · rintro (⟨bad, e, a1, a2, a3, a4, a5, a6, x1, x2, x3, x4, x5, x6, w1, w2, w3, w4, w5, u1, u2, u3, u4, u5⟩ | r) h
    · dsimp only [Ex.then] at h ⊢
      have hw := h.2.2
      refine Ok.bind (R := fun z => (⟨z.1, z.2.1, z.2.2.1, z.2.2.2.1, z.2.2.2.2.1, z.2.2.2.2.2.2.1, z.2.2.2.2.2.2.2.1, z.2.2.2.2.2.2.2.2.1, z.2.2.2.2.2.2.2.2.2.1, z.2.2.2.2.2.2.2.2.2.2, z.2.2.2.2.2.1⟩ : Per) = if bad = 0 then ⟨a1, a2, a3, a4, a5, w1, w2, w3, w4, w5, a6⟩ else nilPer)
        (Ok.ite (fun h0 => Ok.ret (by rw [if_neg h0]; rfl)) (fun h0 => Ok.ret (by rw [if_pos (Decidable.not_not.1 h0)]))) ?_
      rintro ⟨b1, b2, b3, b4, b5, b6, b7, b8, b9, b10, b11⟩ hz
      dsimp only at hz ⊢
      refine fin_p (K := fun b84 => if ¬ bad = 0 then some (p, b84) else Option.bind (if b84 = true then Option.bind (throngref0_EqPeer p p) fun x91 => some x91 else some false) fun b89 => some ((⟨b1, b2, b3, b4, b5, b7, b8, b9, b10, b11, b6⟩ : Per), b89)) hm hb h hz ?_
      refine Ok.ite (fun _ => Ok.ret ⟨rfl, hb.up⟩) (fun h0 => ?_)
      have h0 := Decidable.not_not.1 h0
      rw [if_pos rfl, hself, bsome, bsome]
      exact Ok.ret ⟨rfl, by rw [hz, if_pos h0]; exact hw h0⟩
    · dsimp only [Ex.then]
      exact Ok.ret h
theorem only_p {p : Scr28} (h : p.Wf) (d : Int) : thronglaw28_only p d = some true := by
  unfold thronglaw28_only
  obtain ⟨b, eb, hb⟩ := heavy28_p h
  have hlen := h.2.2
  rw [eb, bsome]
  cases b with
  | true => rw [if_pos rfl]
  | false =>
    obtain ⟨hB, hA⟩ := hb rfl
    rw [if_neg (by simp)]
    refine Ok.eq (Ok.bind (R := fun x => match x with | .go _ => True | .up _ => False) (Ok.loop (fun v : Int => 0 ≤ v ∧ v ≤ 12) (fun v => (12 - v).toNat) (by omega) (by unfold FUEL; omega) ?_) ?_)
    · rintro v ⟨v0, v1⟩
      refine Ok.ite (fun hlt => Ok.gd ⟨v0, hlt.1⟩ ?_) (fun _ => Ok.ret trivial)
      have hact := hA _ (gi_mem (xs := p.l) (j := v) ⟨v0, hlt.1⟩)
      obtain ⟨r, er, hr⟩ := step_p (m := 0) (p := p.p) (a := (⟨d, (gi p.l v).l, ((gi p.l v).n), (gi p.l v).fit, ((gi p.l v).h)⟩ : Act28)) (by omega) hB hact
      rw [er, bsome, if_neg (by rw [hr.1]; simp)]
      exact Ok.gd (by unfold I64; omega) (Ok.ret ⟨⟨by omega, by omega⟩, by omega⟩)
    · rintro (⟨⟩ | b) hx
      · dsimp only [Ex.then]
        rw [wakes28_p, bsome]; exact Ok.ret rfl
      · exact hx.elim
end Go.Proofs.YtnadebijiaelkaaGreat
