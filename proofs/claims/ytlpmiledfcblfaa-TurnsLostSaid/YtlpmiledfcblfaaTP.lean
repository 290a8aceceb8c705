/-
  Commands and inputs, as pure functions: copies, equality, which may be. The conditions stand in each lemma.
-/
import Derived.Test.YtlpmiledfcblfaaTG
import Derived.Test.YtlpmiledfcblfaaVS
set_option linter.unusedVariables false
set_option linter.unusedSimpArgs false
namespace Go.Proofs.Ytlpmiledfcblfaa
open Go.Vg
/-! ### Copies and equality of lists, element by element -/
section
variable {α : Type} [Inhabited α]
def copyBF (f : α → Option α) (l : List α) : Option (List α) :=
  Option.bind (α := List α) (loop (σ := List α × Int) (β := List α) (fun (l4, v6) =>
  if v6 < (l.length : Int) then
  if 0 ≤ v6 ∧ v6 < (l.length : Int) then
  Option.bind (f (gi l v6)) fun x18 =>
  if l4.length + 1 < 1099511627776 then
  if I64 (v6 + 1) then
  some (St.next ((l4 ++ ([x18] : List α)), (v6 + 1)))
  else none
  else none
  else none
  else
  some (St.done l4)) ([], 0)) fun v2 =>
  some v2
theorem copyBF_eq {f : α → Option α} {l : List α} (h : l.length < 1099511627775) (hf : ∀ x ∈ l, f x = some x) : copyBF f l = some l := by
  unfold copyBF
  refine Ok.eq (Ok.bind (R := fun x => x = l) (Ok.loop (fun z : List α × Int => 0 ≤ z.2 ∧ z.2 ≤ l.length ∧ z.1 = l.take z.2.toNat) (fun z => (l.length - z.2).toNat) ⟨by simp, by simp, by simp⟩ (by unfold FUEL; simp; omega) ?_) (fun x hx => Ok.ret hx))
  rintro ⟨m, i⟩ ⟨h0, h1, hq⟩
  try dsimp only at h0 h1 hq ⊢
  subst hq
  refine Ok.ite (fun hlt => ?_) (fun hlt => Ok.ret ?_)
  · refine Ok.gd ⟨h0, hlt⟩ ?_
    rw [hf _ (gi_mem ⟨h0, hlt⟩), bsome]
    refine Ok.gd (by rw [List.length_take]; omega) (Ok.gd (by unfold I64; omega) (Ok.ret ⟨⟨by show 0 ≤ i + 1; omega, by show i + 1 ≤ _; omega, ?_⟩, by show (l.length - (i + 1)).toNat < _; omega⟩))
    show _ = l.take (i + 1).toNat
    rw [take_nextV ⟨h0, hlt⟩]
  · have : i = l.length := by omega
    subst this
    simp
def eqBF (f : α → α → Option Bool) (a b : List α) : Option Bool :=
  if ¬ (a.length : Int) = (b.length : Int) then
  some false
  else
  Option.bind (α := Ex (Unit) (Bool)) (loop (σ := Int) (β := Ex (Unit) (Bool)) (fun v3 =>
  if v3 < (a.length : Int) then
  if 0 ≤ v3 ∧ v3 < (a.length : Int) then
  if 0 ≤ v3 ∧ v3 < (b.length : Int) then
  Option.bind (f (gi a v3) (gi b v3)) fun x24 =>
  if (!x24) = true then
  some (St.done (Ex.up false))
  else
  if I64 (v3 + 1) then
  some (St.next (v3 + 1))
  else none
  else none
  else none
  else
  some (St.done (Ex.go ()))) 0) fun x => x.then fun _ =>
  some true
theorem eqBF_eq [DecidableEq α] {f : α → α → Option Bool} {a b : List α} (ha : a.length ≤ 9223372036854775807) (hf : ∀ x ∈ a, ∀ y ∈ b, f x y = some (decide (x = y))) : eqBF f a b = some (decide (a = b)) := by
  unfold eqBF
  refine Ok.eq (Ok.ite (fun hn => Ok.ret (decide_eq_false (fun e => hn (by rw [e]))).symm) (fun hn => ?_))
  have hl : a.length = b.length := by omega
  refine Ok.bind (scanOk (a := 0) (n := a.length) (fun v => gi a v = gi b v) (fun r => r = false ∧ ¬ a = b) (by omega) (fun v v0 v1 _ => ?_) (fun v v0 v1 => by rw [if_neg (by omega)])) ?_
  · rw [if_pos v1]
    refine Ok.gd ⟨v0, v1⟩ (Ok.gd ⟨v0, by omega⟩ ?_)
    rw [hf _ (gi_mem ⟨v0, v1⟩) _ (gi_mem ⟨v0, by omega⟩), bsome]
    by_cases e : gi a v = gi b v
    · rw [decide_eq_true e, if_neg (by simp)]
      exact Ok.gd (by unfold I64; omega) (Ok.ret ⟨rfl, e⟩)
    · rw [decide_eq_false e, if_pos (by simp)]
      exact Ok.ret ⟨rfl, fun h => e (by rw [h])⟩
  · rintro (_ | _) hx
    · dsimp only [Ex.then]
      exact Ok.ret (decide_eq_true (ext_gi hl fun j j0 j1 => hx j j0 (by omega))).symm
    · dsimp only [Ex.then]
      exact Ok.ret (by rw [hx.1, decide_eq_false hx.2])
end
theorem bifb (b y : Bool) {β : Type} (k : Bool → Option β) : (Option.bind (if b = true then Option.bind (some y) fun x => some x else some false) k) = k (b && y) := by cases b <;> rfl
theorem bifp {p : Prop} [Decidable p] (y : Bool) {β : Type} (k : Bool → Option β) : (Option.bind (if p then Option.bind (some y) fun x => some x else some false) k) = k (decide p && y) := by
  by_cases h : p
  · rw [if_pos h, decide_eq_true h]; rfl
  · rw [if_neg h, decide_eq_false h]; rfl
theorem bifc (b y : Bool) {β : Type} (k : Bool → Option β) : (Option.bind (if b = true then some y else some false) k) = k (b && y) := by cases b <;> rfl
theorem bifq {p : Prop} [Decidable p] (y : Bool) {β : Type} (k : Bool → Option β) : (Option.bind (if p then some y else some false) k) = k (decide p && y) := by
  by_cases h : p
  · rw [if_pos h, decide_eq_true h]; rfl
  · rw [if_neg h, decide_eq_false h]; rfl
/-! ### Copies -/
theorem copyN_p {l : List Int} (h : l.length < 1099511627776) : throngref0_CopyNumbers l = some l := copyF_eq h
theorem eqN_p {a b : List Int} (h : a.length ≤ 9223372036854775807) : throngref0_EqNumbers a b = some (decide (a = b)) := eqF_eq h
theorem copyC_p {c : Cmd} (h : CmdS c) : throngref0_CopyCommand c = some c := by
  unfold throngref0_CopyCommand
  rw [copyN_p (by unfold CmdS at h; omega)]; rfl
theorem copyCs_p {l : List Cmd} (hl : l.length ≤ 1000000) (h : ∀ c ∈ l, CmdS c) : throngref0_CopyCommands l = some l := copyBF_eq (f := throngref0_CopyCommand) (by omega) fun c hc => copyC_p (h c hc)
theorem copyI_p {i : Inp} (h : InpS i) : throngref0_CopyInput i = some i := by
  unfold throngref0_CopyInput
  rw [copyCs_p h.1 h.2]; rfl
theorem copyIs_p {l : List Inp} (h : InpsS l) : throngref0_CopyInputs l = some l := copyBF_eq (f := throngref0_CopyInput) (by have := h.1; omega) fun c hc => copyI_p (h.2 c hc)
theorem ownC_p {c : Cmd} (h : CmdS c) : command_Own c = some c := by
  unfold command_Own slices_Clone_Int
  rw [if_pos (by unfold CmdS at h; omega)]; rfl
theorem ownCs_p {l : List Cmd} (hl : l.length ≤ 1000000) (h : ∀ c ∈ l, CmdS c) : command_OwnAll l = some l := copyBF_eq (f := command_Own) (by omega) fun c hc => ownC_p (h c hc)
theorem ownI_p {i : Inp} (h : InpS i) : turns_Own i = some i := by
  unfold turns_Own
  rw [ownCs_p h.1 h.2]; rfl
theorem ownIs_p {l : List Inp} (h : InpsS l) : turns_OwnAll l = some l := copyBF_eq (f := turns_Own) (by have := h.1; omega) fun c hc => ownI_p (h.2 c hc)
theorem eqC_p {a b : Cmd} (h : CmdS a) : throngref0_EqCommand a b = some (decide (a = b)) := by
  unfold throngref0_EqCommand
  rw [eqN_p (by unfold CmdS at h; omega), bifp, Option.some.injEq, decide_eq_decide]
  simp only [Bool.and_eq_true, decide_eq_true_eq]
  constructor
  · rintro ⟨⟨⟨⟨⟨⟨⟨⟨h1, h2⟩, h3⟩, h4⟩, h5⟩, h6⟩, h7⟩, h8⟩, h9⟩
    cases a; cases b; simp_all
  · rintro rfl; simp
theorem eqCs_p {a b : List Cmd} (hl : a.length ≤ 1000000) (h : ∀ c ∈ a, CmdS c) : throngref0_EqCommands a b = some (decide (a = b)) := eqBF_eq (f := throngref0_EqCommand) (by omega) fun x hx y _ => eqC_p (h x hx)
theorem eqI_p {a b : Inp} (h : InpS a) : throngref0_EqInput a b = some (decide (a = b)) := by
  unfold throngref0_EqInput
  rw [eqCs_p h.1 h.2, bifp, Option.some.injEq, Bool.eq_iff_iff, decide_eq_true_iff]
  simp only [Bool.and_eq_true, decide_eq_true_eq]
  constructor
  · rintro ⟨⟨h1, h2⟩, h3⟩
    cases a; cases b; simp_all
  · rintro rfl; simp
theorem eqIs_p {a b : List Inp} (h : InpsS a) : throngref0_EqInputs a b = some (decide (a = b)) := eqBF_eq (f := throngref0_EqInput) (by have := h.1; omega) fun x hx y _ => eqI_p (h.2 x hx)
/-! ### Which commands may be -/
def UnitsOk (l : List Int) : Prop := ((1 ≤ (l.length : Int)) ∧ ((l.length : Int) ≤ 64)) ∧ ∀ v : Int, 0 ≤ v → v < l.length → (1 ≤ gi l v ∧ gi l v ≤ 1099511627776) ∧ (0 < v → gi l (v - 1) < gi l v)
theorem units_b {l : List Int} (hl : l.length ≤ 1000000) : Bo (command_units l) (UnitsOk l) := by
  unfold command_units
  refine Ok.bind (scanOk (a := 0) (n := l.length) (fun v => (1 ≤ gi l v ∧ gi l v ≤ 1099511627776) ∧ (0 < v → gi l (v - 1) < gi l v)) (fun r => r = false ∧ ¬ UnitsOk l) (by omega) (fun v v0 v1 _ => ?_) (fun v v0 v1 => by rw [if_neg (by omega)])) ?_
  · rw [if_pos v1]
    refine Ok.gd ⟨v0, v1⟩ (Ok.gd (fun _ _ => by unfold I64; omega) (Ok.gd (fun _ h => ⟨by omega, by omega⟩) (Ok.ite (fun h => Ok.ret ⟨rfl, fun hu => ?_⟩) (fun h => Ok.gd (by unfold I64; omega) (Ok.ret ⟨rfl, ?_⟩)))))
    · have := hu.2 v v0 v1
      rcases h with h | h
      · omega
      · have := this.2 h.1; omega
    · refine ⟨by omega, fun hv => ?_⟩
      apply Classical.byContradiction; intro hc
      exact h (.inr ⟨hv, by omega⟩)
  · rintro (_ | _) hx
    · exact Bo.dec ⟨fun h => ⟨h, hx⟩, fun h => h.1⟩
    · exact Ok.ret ⟨fun e => (by rw [hx.1] at e; cases e), fun h => absurd h hx.2⟩
theorem ids_b {l : List Int} (hl : l.length ≤ 1000000) : Bo (throngref21_ids l) (UnitsOk l) := by
  have hr : Bo (throngref0_Rising l) (∀ v : Int, 1 ≤ v → v < l.length → gi l (v - 1) < gi l v) := by
    unfold throngref0_Rising
    refine scanBo (a := 1) (n := l.length) (fun v => gi l (v - 1) < gi l v) (by omega) (fun v v0 v1 _ => ?_) (fun v v0 v1 => by rw [if_neg (by omega)])
    rw [if_pos v1]
    exact Ok.gd ⟨by omega, v1⟩ (Ok.gd (by unfold I64; omega) (Ok.gd ⟨by omega, by omega⟩ (Ok.ite (fun h => Ok.ret ⟨rfl, by omega⟩) (fun h => Ok.gd (by unfold I64; omega) (Ok.ret ⟨rfl, by omega⟩)))))
  have hb : Bo (throngref0_Between l 1 1099511627776) (∀ v : Int, 0 ≤ v → v < l.length → 1 ≤ gi l v ∧ gi l v ≤ 1099511627776) := by
    unfold throngref0_Between
    refine scanBo (a := 0) (n := l.length) (fun v => 1 ≤ gi l v ∧ gi l v ≤ 1099511627776) (by omega) (fun v v0 v1 _ => ?_) (fun v v0 v1 => by rw [if_neg (by omega)])
    rw [if_pos v1]
    exact Ok.gd ⟨by omega, v1⟩ (Ok.gd (fun _ => ⟨by omega, by omega⟩) (Ok.ite (fun h => Ok.ret ⟨rfl, by omega⟩) (fun h => Ok.gd (by unfold I64; omega) (Ok.ret ⟨rfl, by omega⟩))))
  obtain ⟨r, er, hr⟩ := hr
  obtain ⟨b, eb, hb⟩ := hb
  unfold throngref21_ids
  rw [er, eb, bifp, bifb]
  refine Ok.ret ?_
  rw [Bool.and_eq_true, Bool.and_eq_true, decide_eq_true_eq, hr, hb]
  constructor
  · rintro ⟨⟨h1, h2⟩, h3⟩
    exact ⟨h1, fun v v0 v1 => ⟨h3 v v0 v1, fun hv => h2 v (by omega) v1⟩⟩
  · rintro ⟨h1, h2⟩
    exact ⟨⟨h1, fun v v0 v1 => (h2 v (by omega) v1).2 (by omega)⟩, fun v v0 v1 => (h2 v v0 v1).1⟩
theorem mayC_same {c : Cmd} (h : CmdS c) : ∃ b, command_May c = some b ∧ throngref21_Command c = some b := by
  obtain ⟨u, hu, hut⟩ := units_b h
  obtain ⟨d, hd, hdt⟩ := ids_b h
  have hud : u = d := by
    cases u <;> cases d <;> simp_all
  subst hud
  unfold command_May command_only throngref21_Command
  have e0 : ∀ a : Cmd, CmdS a → throngref0_EqCommand a c = some (decide (a = c)) := fun a ha => eqC_p ha
  have z0 : ∀ p s k n t w hh q, CmdS (⟨p, s, k, n, [], t, w, hh, q⟩ : Cmd) := fun _ _ _ _ _ _ _ _ => by show (0 : Nat) ≤ 1000000; omega
  have z1 : ∀ p s k n t w hh q, CmdS (⟨p, s, k, n, c.units, t, w, hh, q⟩ : Cmd) := fun _ _ _ _ _ _ _ _ => h
  have p0 : ∀ (p : Vec) (r : Int), throngref17_May p r = some (decide ((((((0 ≤ r) ∧ (r ≤ 262144)) ∧ ((-1099511627776) ≤ p.x)) ∧ (p.x ≤ 1099511627776)) ∧ ((-1099511627776) ≤ p.y)) ∧ (p.y ≤ 1099511627776))) := fun _ _ => rfl
  have fin : ∀ {x y : Bool}, (x = true ↔ y = true) → ∃ b, some x = some b ∧ some y = some b := fun {x y} h => ⟨x, rfl, by rw [Bool.eq_iff_iff.2 h]⟩
  have hu0 : ∀ l : List Int, ((([] : List Int).length : Int) = (l.length : Int)) ↔ [] = l := fun l => by
    cases l with
    | nil => simp
    | cons a l => simp; omega
  by_cases k1 : c.kind = 1
  · simp only [k1, if_true, reduceIte, kind_May, disc_Place, command_within, throngref0_Num, p0, throngref21_tile, throngref21_id, hu, hd, e0 _ (z0 _ _ _ _ _ _ _ _), e0 _ (z1 _ _ _ _ _ _ _ _), bsome, bifc, bifq]
    refine fin ?_
    cases c
    simp only [Cmd.mk.injEq, Bool.and_eq_true, decide_eq_true_eq, hu0] at k1 ⊢
    subst k1
    constructor
    · rintro ⟨⟨⟨⟨⟨⟨h1, h2⟩, h3⟩, h4⟩, h5⟩, h6⟩, h7⟩
      subst_vars
      simp only [true_and, and_true] at *
      first | omega | (simp_all; done) | (simp_all; omega)
    · intro h
      clear hu hd e0 z0 z1 p0 hut hdt fin
      simp only [eq_comm (a := (0 : Int)), eq_comm (a := (⟨0, 0⟩ : Vec)), eq_comm (a := ([] : List Int))] at h ⊢
      first | (simp_all; done) | (simp_all; omega)
  by_cases k2 : c.kind = 2
  · simp only [k2, if_true, reduceIte, kind_May, disc_Place, command_within, throngref0_Num, p0, throngref21_tile, throngref21_id, hu, hd, e0 _ (z0 _ _ _ _ _ _ _ _), e0 _ (z1 _ _ _ _ _ _ _ _), bsome, bifc, bifq]
    refine fin ?_
    cases c
    simp only [Cmd.mk.injEq, Bool.and_eq_true, decide_eq_true_eq, hu0] at k2 ⊢
    subst k2
    constructor
    · rintro ⟨⟨⟨⟨⟨⟨h1, h2⟩, h3⟩, h4⟩, h5⟩, h6⟩, h7⟩
      subst_vars
      simp only [true_and, and_true] at *
      first | omega | (simp_all; done) | (simp_all; omega)
    · intro h
      clear hu hd e0 z0 z1 p0 hut hdt fin
      simp only [eq_comm (a := (0 : Int)), eq_comm (a := (⟨0, 0⟩ : Vec)), eq_comm (a := ([] : List Int))] at h ⊢
      first | (simp_all; done) | (simp_all; omega)
  by_cases k3 : c.kind = 3
  · simp only [k3, if_true, reduceIte, kind_May, disc_Place, command_within, throngref0_Num, p0, throngref21_tile, throngref21_id, hu, hd, e0 _ (z0 _ _ _ _ _ _ _ _), e0 _ (z1 _ _ _ _ _ _ _ _), bsome, bifc, bifq]
    refine fin ?_
    cases c
    simp only [Cmd.mk.injEq, Bool.and_eq_true, decide_eq_true_eq, hu0] at k3 ⊢
    subst k3
    constructor
    · rintro ⟨⟨⟨⟨⟨⟨h1, h2⟩, h3⟩, h4⟩, h5⟩, h6⟩, h7⟩
      subst_vars
      simp only [true_and, and_true] at *
      first | omega | (simp_all; done) | (simp_all; omega)
    · intro h
      clear hu hd e0 z0 z1 p0 hut hdt fin
      simp only [eq_comm (a := (0 : Int)), eq_comm (a := (⟨0, 0⟩ : Vec)), eq_comm (a := ([] : List Int))] at h ⊢
      first | (simp_all; done) | (simp_all; omega)
  by_cases k4 : c.kind = 4
  · simp only [k4, if_true, reduceIte, kind_May, disc_Place, command_within, throngref0_Num, p0, throngref21_tile, throngref21_id, hu, hd, e0 _ (z0 _ _ _ _ _ _ _ _), e0 _ (z1 _ _ _ _ _ _ _ _), bsome, bifc, bifq]
    refine fin ?_
    cases c
    simp only [Cmd.mk.injEq, Bool.and_eq_true, decide_eq_true_eq, hu0] at k4 ⊢
    subst k4
    constructor
    · rintro ⟨⟨⟨⟨⟨⟨h1, h2⟩, h3⟩, h4⟩, h5⟩, h6⟩, h7⟩
      subst_vars
      simp only [true_and, and_true] at *
      first | omega | (simp_all; done) | (simp_all; omega)
    · intro h
      clear hu hd e0 z0 z1 p0 hut hdt fin
      simp only [eq_comm (a := (0 : Int)), eq_comm (a := (⟨0, 0⟩ : Vec)), eq_comm (a := ([] : List Int))] at h ⊢
      first | (simp_all; done) | (simp_all; omega)
  by_cases k5 : c.kind = 5
  · simp only [k5, if_true, reduceIte, kind_May, disc_Place, command_within, throngref0_Num, p0, throngref21_tile, throngref21_id, hu, hd, e0 _ (z0 _ _ _ _ _ _ _ _), e0 _ (z1 _ _ _ _ _ _ _ _), bsome, bifc, bifq]
    refine fin ?_
    cases c
    simp only [Cmd.mk.injEq, Bool.and_eq_true, decide_eq_true_eq, hu0] at k5 ⊢
    subst k5
    constructor
    · rintro ⟨⟨⟨⟨⟨⟨h1, h2⟩, h3⟩, h4⟩, h5⟩, h6⟩, h7⟩
      subst_vars
      simp only [true_and, and_true] at *
      first | omega | (simp_all; done) | (simp_all; omega)
    · intro h
      clear hu hd e0 z0 z1 p0 hut hdt fin
      simp only [eq_comm (a := (0 : Int)), eq_comm (a := (⟨0, 0⟩ : Vec)), eq_comm (a := ([] : List Int))] at h ⊢
      first | (simp_all; done) | (simp_all; omega)
  by_cases k6 : c.kind = 6
  · simp only [k6, if_true, reduceIte, kind_May, disc_Place, command_within, throngref0_Num, p0, throngref21_tile, throngref21_id, hu, hd, e0 _ (z0 _ _ _ _ _ _ _ _), e0 _ (z1 _ _ _ _ _ _ _ _), bsome, bifc, bifq]
    refine fin ?_
    cases c
    simp only [Cmd.mk.injEq, Bool.and_eq_true, decide_eq_true_eq, hu0] at k6 ⊢
    subst k6
    constructor
    · rintro ⟨⟨⟨⟨⟨⟨h1, h2⟩, h3⟩, h4⟩, h5⟩, h6⟩, h7⟩
      subst_vars
      simp only [true_and, and_true] at *
      first | omega | (simp_all; done) | (simp_all; omega)
    · intro h
      clear hu hd e0 z0 z1 p0 hut hdt fin
      simp only [eq_comm (a := (0 : Int)), eq_comm (a := (⟨0, 0⟩ : Vec)), eq_comm (a := ([] : List Int))] at h ⊢
      first | (simp_all; done) | (simp_all; omega)
  by_cases k7 : c.kind = 7
  · simp only [k7, if_true, reduceIte, kind_May, disc_Place, command_within, throngref0_Num, p0, throngref21_tile, throngref21_id, hu, hd, e0 _ (z0 _ _ _ _ _ _ _ _), e0 _ (z1 _ _ _ _ _ _ _ _), bsome, bifc, bifq]
    refine fin ?_
    cases c
    simp only [Cmd.mk.injEq, Bool.and_eq_true, decide_eq_true_eq, hu0] at k7 ⊢
    subst k7
    constructor
    · rintro ⟨⟨⟨⟨⟨⟨h1, h2⟩, h3⟩, h4⟩, h5⟩, h6⟩, h7⟩
      subst_vars
      simp only [true_and, and_true] at *
      first | omega | (simp_all; done) | (simp_all; omega)
    · intro h
      clear hu hd e0 z0 z1 p0 hut hdt fin
      simp only [eq_comm (a := (0 : Int)), eq_comm (a := (⟨0, 0⟩ : Vec)), eq_comm (a := ([] : List Int))] at h ⊢
      first | (simp_all; done) | (simp_all; omega)
  · simp only [k1, k2, k3, k4, k5, k6, k7, if_true, if_false, reduceIte, command_within, throngref0_Num, bsome, bifc, bifq]
    refine fin ?_
    simp
end Go.Proofs.Ytlpmiledfcblfaa
