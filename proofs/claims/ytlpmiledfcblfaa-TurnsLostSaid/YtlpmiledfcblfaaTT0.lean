/-
  What the statements of the turns begin and end with: what is heavy, the wake; what is written over. The conditions stand in each lemma.
-/
import Derived.Test.YtlpmiledfcblfaaTR
set_option linter.unusedVariables false
set_option linter.unusedSimpArgs false
namespace Go.Proofs.Ytlpmiledfcblfaa
open Go.Vg Go.Lib
theorem boT {m : Option Bool} {p : Prop} (h : Bo m p) (e : m = some true) : p := by
  obtain ⟨r, e', q⟩ := h
  rw [e'] at e
  exact q.1 (Option.some.inj e)
/-- Slices that are Go's. -/
def CmdG (c : Cmd) : Prop := c.units.length ≤ 140737488351232
def InpG (i : Inp) : Prop := i.commands.length ≤ 140737488351232 ∧ ∀ c ∈ i.commands, CmdG c
def InpsG (l : List Inp) : Prop := l.length ≤ 140737488351232 ∧ ∀ i ∈ l, InpG i
theorem Inp.Wf.G {i : Inp} (h : Inp.Wf i) : InpG i := ⟨h.2.2.2, fun c hc => (h.2.2.1 c hc).2.2.2.2.1.2⟩
/-- Commands' weight: more than enough, or what they are. -/
theorem weightC_p {l : List Cmd} (hl : l.length ≤ 140737488351232) (hs : ∀ c ∈ l, CmdG c) : Ok (thronglaw0_CommandsWeight l) fun w => (0 ≤ w ∧ w ≤ 281474976800000) ∧ (l.length : Int) ≤ w ∧ (w < 1048576 → ∀ c ∈ l, (c.units.length : Int) ≤ w) := by
  unfold thronglaw0_CommandsWeight
  refine Ok.bind (R := fun w : Int => (0 ≤ w ∧ w ≤ 281474976800000) ∧ (l.length : Int) ≤ w ∧ (w < 1048576 → ∀ c ∈ l, (c.units.length : Int) ≤ w))
    (Ok.loop (fun z : Int × Int => (0 ≤ z.2 ∧ z.2 ≤ l.length) ∧ ((l.length : Int) ≤ z.1 ∧ z.1 ≤ 281474976800000) ∧ ∀ u, 0 ≤ u → u < z.2 → ((gi l u).units.length : Int) ≤ z.1) (fun z => (l.length - z.2).toNat) ⟨by simp, by simp; omega, fun u u0 u1 => by have : u < 0 := u1; omega⟩ (by unfold FUEL; simp; omega) ?_) (fun x hx => Ok.ret hx)
  rintro ⟨n, i⟩ ⟨⟨h0, h1⟩, ⟨h2, h3⟩, hq⟩
  dsimp only at h0 h1 h2 h3 hq ⊢
  refine Ok.ite (fun hlt => Ok.gd ⟨h0, hlt.1⟩ ?_) (fun hlt => Ok.ret ⟨⟨by show 0 ≤ n; omega, h3⟩, h2, fun hw c hc => ?_⟩)
  · have hc := hs _ (gi_mem ⟨h0, hlt.1⟩)
    unfold CmdG at hc
    refine Ok.gd (by unfold I64; omega) (Ok.gd (by unfold I64; omega) (Ok.ret ⟨⟨⟨by show 0 ≤ i + 1; omega, by show i + 1 ≤ _; omega⟩, ⟨by show _ ≤ n + _; omega, by show n + _ ≤ _; omega⟩, fun u u0 u1 => ?_⟩, by show (l.length - (i + 1)).toNat < _; omega⟩))
    show _ ≤ n + _
    by_cases e : u = i
    · subst e; omega
    · have := hq u u0 (by have : u < i + 1 := u1; omega); omega
  · obtain ⟨u, u0, u1, rfl⟩ := gi_mem2.1 hc
    exact hq u u0 (by omega)
theorem weightI_p {l : List Inp} (hs : InpsG l) : Ok (thronglaw0_InputsWeight l) fun w => (0 ≤ w) ∧ (w ≤ 800 → InpsS l ∧ l.length ≤ 800 ∧ ∀ i ∈ l, i.commands.length ≤ 800 ∧ ∀ c ∈ i.commands, c.units.length ≤ 800) := by
  unfold thronglaw0_InputsWeight
  refine Ok.bind (R := fun w : Int => 0 ≤ w ∧ (w ≤ 800 → InpsS l ∧ l.length ≤ 800 ∧ ∀ i ∈ l, i.commands.length ≤ 800 ∧ ∀ c ∈ i.commands, c.units.length ≤ 800))
    (Ok.loop (fun z : Int × Int => (0 ≤ z.2 ∧ z.2 ≤ l.length) ∧ ((l.length : Int) ≤ z.1 ∧ z.1 ≤ 281474976800000 + 1048576) ∧ (z.1 < 1048576 → ∀ u, 0 ≤ u → u < z.2 → ((gi l u).commands.length : Int) ≤ z.1 ∧ ∀ c ∈ (gi l u).commands, (c.units.length : Int) ≤ z.1)) (fun z => (l.length - z.2).toNat) ⟨by simp, by simp; have := hs.1; omega, fun _ u u0 u1 => by have : u < 0 := u1; omega⟩ (by unfold FUEL; simp; have := hs.1; omega) ?_) (fun x hx => Ok.ret hx)
  have hl := hs.1
  rintro ⟨n, i⟩ ⟨⟨h0, h1⟩, ⟨h2, h3⟩, hq⟩
  dsimp only at h0 h1 h2 h3 hq ⊢
  refine Ok.ite (fun hlt => Ok.gd ⟨h0, hlt.1⟩ ?_) (fun hlt => Ok.ret ⟨by show 0 ≤ n; omega, fun hw => ?_⟩)
  · have hi := hs.2 _ (gi_mem ⟨h0, hlt.1⟩)
    refine Ok.bind (weightC_p hi.1 hi.2) fun x hx => ?_
    refine Ok.gd (by unfold I64; omega) (Ok.gd (by unfold I64; omega) (Ok.ret ⟨⟨⟨by show 0 ≤ i + 1; omega, by show i + 1 ≤ _; omega⟩, ⟨by show _ ≤ n + _; omega, by show n + _ ≤ _; omega⟩, fun hn u u0 u1 => ?_⟩, by show (l.length - (i + 1)).toNat < _; omega⟩))
    have hn : n + x < 1048576 := hn
    show ((gi l u).commands.length : Int) ≤ n + x ∧ ∀ c ∈ (gi l u).commands, (c.units.length : Int) ≤ n + x
    by_cases e : u = i
    · subst e
      exact ⟨by omega, fun c hc => by have := hx.2.2 (by omega) c hc; omega⟩
    · have := hq (by omega) u u0 (by have : u < i + 1 := u1; omega)
      exact ⟨by omega, fun c hc => by have := this.2 c hc; omega⟩
  · have hw : n ≤ 800 := hw
    have key : ∀ i ∈ l, i.commands.length ≤ 800 ∧ ∀ c ∈ i.commands, c.units.length ≤ 800 := fun y hy => by
      obtain ⟨u, u0, u1, rfl⟩ := gi_mem2.1 hy
      have := hq (by omega) u u0 (by omega)
      exact ⟨by omega, fun c hc => by have := this.2 c hc; omega⟩
    refine ⟨⟨by omega, fun y hy => ⟨by have := (key y hy).1; omega, fun c hc => by have := (key y hy).2 c hc; unfold CmdS; omega⟩⟩, by omega, key⟩
/-- Small enough to be asked. -/
def Lite (p : Ask27) : Prop := (InpsS p.l ∧ p.l.length ≤ 800 ∧ ∀ i ∈ p.l, i.commands.length ≤ 800 ∧ ∀ c ∈ i.commands, c.units.length ≤ 800) ∧ (InpsS p.more ∧ p.more.length ≤ 800 ∧ ∀ i ∈ p.more, i.commands.length ≤ 800 ∧ ∀ c ∈ i.commands, c.units.length ≤ 800) ∧ p.ts.length ≤ 50
theorem heavy_p {p : Ask27} (h : p.Wf) : Ok (thronglaw27_heavy p) fun b => b = false → Lite p := by
  have hl : InpsG p.l := ⟨h.1.2, fun i hi => (h.1.1 i hi).G⟩
  have hm : InpsG p.more := ⟨h.2.1.2, fun i hi => (h.2.1.1 i hi).G⟩
  unfold thronglaw27_heavy
  refine Ok.bind (weightI_p hl) fun a ha => ?_
  refine Ok.bind (R := fun b => b = false → a ≤ 800 ∧ (InpsS p.more ∧ p.more.length ≤ 800 ∧ ∀ i ∈ p.more, i.commands.length ≤ 800 ∧ ∀ c ∈ i.commands, c.units.length ≤ 800)) (Ok.ite (fun h1 => Ok.ret fun e => by (cases e)) (fun h1 => Ok.bind (weightI_p hm) fun b hb => Ok.ret fun e => ⟨by omega, hb.2 (by simpa using e)⟩)) fun b hb => Ok.ret fun e => ?_
  have e1 : ¬ (b = true ∨ 50 < (p.ts.length : Int)) := by simpa using e
  have hbf : b = false := by
    cases b with
    | true => exact absurd (.inl rfl) e1
    | false => rfl
  have h3 := hb hbf
  exact ⟨ha.2 h3.1, h3.2, by omega⟩
theorem num27_p (e : Int) : thronglaw27_num e = some e := rfl
theorem wakes27_p : thronglaw27_wakes = some true := by
  unfold thronglaw27_wakes
  obtain ⟨c1, hc1⟩ : ∃ c, c = (⟨2, 0, 3, 0, [1], 0, 0, 0, (⟨0, 0⟩ : Vec)⟩ : Cmd) := ⟨_, rfl⟩
  obtain ⟨c2, hc2⟩ : ∃ c, c = (⟨1, 0, 3, 0, [1], 0, 0, 0, (⟨0, 0⟩ : Vec)⟩ : Cmd) := ⟨_, rfl⟩
  obtain ⟨i1, hi1⟩ : ∃ i, i = (⟨3, 2, [c1]⟩ : Inp) := ⟨_, rfl⟩
  obtain ⟨i2, hi2⟩ : ∃ i, i = (⟨3, 1, [c2]⟩ : Inp) := ⟨_, rfl⟩
  have hS : InpsS [i1, i2] := by rw [hi1, hi2, hc1, hc2]; decide
  have o1 : InpOk i1 := boT (mayI_b (hS.2 i1 (by simp))) (by rw [hi1, hc1]; decide +kernel)
  have o2 : InpOk i2 := boT (mayI_b (hS.2 i2 (by simp))) (by rw [hi2, hc2]; decide +kernel)
  have hlt : InLt i2 i1 := by rw [hi1, hi2]; unfold InLt; simp
  have hm : MOk [i1, i2] := by
    refine ⟨fun x hx => ?_, ?_⟩
    · have hx' : x = i1 ∨ x = i2 := by simpa using hx
      refine ⟨by rcases hx' with rfl | rfl <;> assumption, fun y hy => ?_⟩
      have hy' : y = i1 ∨ y = i2 := by simpa using hy
      rcases hx' with rfl | rfl <;> rcases hy' with rfl | rfl <;> simp [hi1, hi2]
    · unfold KD; simp [hi1, hi2]
  obtain ⟨r, e, _, hr⟩ := merge_p hS
  obtain ⟨s, hp, hs, rfl⟩ := hr hm
  have hse : s = [i2, i1] := rise_uniq (hp.trans (List.Perm.swap _ _ _)) hs (by simp [hlt])
  rw [← hc1, ← hc2, ← hi1, ← hi2, e, bsome, num27_p, bsome, hse]
  have hf : [i2, i1].flatMap (·.commands) = [c2, c1] := by rw [hi1, hi2]; rfl
  dsimp only
  rw [hf, hc1, hc2]
  decide +kernel
theorem numbers27_p {a : List Int} (h : a.length < 1099511627776) : thronglaw0_Numbers a = some () := by
  unfold thronglaw0_Numbers
  refine Ok.eq (Ok.bind (R := fun m : List Int => m.length = a.length) (Ok.loop (fun z : Int × List Int => (0 ≤ z.1 ∧ z.1 ≤ a.length) ∧ z.2.length = a.length) (fun z => (a.length - z.1).toNat) ⟨by simp, rfl⟩ (by unfold FUEL; simp; omega) ?_) fun x hx => Ok.gd (by omega) (Ok.ret rfl))
  rintro ⟨i, m⟩ ⟨⟨h0, h1⟩, hq⟩
  dsimp only at h0 h1 hq ⊢
  exact Ok.ite (fun hlt => Ok.gd ⟨h0, hlt⟩ (Ok.gd (by unfold I64; omega) (Ok.ret ⟨⟨by show 0 ≤ i + 1 ∧ i + 1 ≤ _; omega, by show (si m _ _).length = _; rw [len_si]; exact hq⟩, by show ((a.length : Int) - (i + 1)).toNat < _; omega⟩))) (fun _ => Ok.ret hq)
theorem commands_p {l : List Cmd} (hl : l.length ≤ 1000000) (hs : ∀ c ∈ l, CmdS c) : thronglaw0_Commands l = some () := by
  unfold thronglaw0_Commands
  refine Ok.eq (Ok.bind (R := fun _ : Unit => True) (Ok.loop (fun v : Int => 0 ≤ v ∧ v ≤ l.length) (fun v => (l.length - v).toNat) ⟨by simp, by simp⟩ (by unfold FUEL; simp; omega) ?_) fun x hx => Ok.gd (by omega) (Ok.ret rfl))
  rintro v ⟨v0, v1⟩
  refine Ok.ite (fun hlt => Ok.gd ⟨v0, hlt⟩ ?_) (fun _ => Ok.ret trivial)
  have := hs _ (gi_mem ⟨v0, hlt⟩)
  unfold CmdS at this
  rw [numbers27_p (by omega), bsome]
  exact Ok.gd (by unfold I64; omega) (Ok.ret ⟨⟨by omega, by omega⟩, by omega⟩)
theorem inputs_p {l : List Inp} (h : InpsS l) : thronglaw0_Inputs l = some () := by
  have hl := h.1
  unfold thronglaw0_Inputs
  refine Ok.eq (Ok.bind (R := fun _ : Unit => True) (Ok.loop (fun v : Int => 0 ≤ v ∧ v ≤ l.length) (fun v => (l.length - v).toNat) ⟨by simp, by simp⟩ (by unfold FUEL; simp; omega) ?_) fun x hx => Ok.gd (by omega) (Ok.ret rfl))
  rintro v ⟨v0, v1⟩
  refine Ok.ite (fun hlt => Ok.gd ⟨v0, hlt⟩ ?_) (fun _ => Ok.ret trivial)
  have := h.2 _ (gi_mem ⟨v0, hlt⟩)
  rw [commands_p this.1 this.2, bsome]
  exact Ok.gd (by unfold I64; omega) (Ok.ret ⟨⟨by omega, by omega⟩, by omega⟩)
theorem flat_len {n : Nat} : ∀ {l : List Inp}, (∀ i ∈ l, i.commands.length ≤ n) → (l.flatMap (·.commands)).length ≤ n * l.length
  | [], _ => by simp
  | i :: l, h => by
    have h1 := h i (by simp)
    have h2 := flat_len (l := l) fun j hj => h j (by simp [hj])
    rw [List.flatMap_cons, List.length_append, List.length_cons, Nat.mul_succ]; omega
theorem flat_S {l : List Inp} (h : InpsS l) : ∀ c ∈ l.flatMap (·.commands), CmdS c := fun c hc => by
  obtain ⟨i, hi, hc⟩ := List.mem_flatMap.1 hc
  exact (h.2 i hi).2 c hc
theorem checkT {i : Inp} (h : InpS i) (ho : InpOk i) : turns_Check i = some 0 := by
  unfold turns_Check
  rw [(mayI_b h).t ho, bsome, if_neg (by simp)]
theorem checkF {i : Inp} (h : InpS i) (ho : ¬ InpOk i) : turns_Check i = some 1 := by
  unfold turns_Check
  rw [(mayI_b h).f ho, bsome, if_pos (by rfl)]
end Go.Proofs.Ytlpmiledfcblfaa
