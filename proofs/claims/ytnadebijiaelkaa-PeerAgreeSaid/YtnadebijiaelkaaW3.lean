/-
  Texts of one's own, joined: VP VQ VR VT VS VU VW VX VY V1 V2 V3 V4 V7.
-/
import Derived.Test.YtnadebijiaelkaaW2
import Derived.Laws.StructEq
set_option linter.unusedVariables false
namespace Go.Vg
theorem bsome {α β : Type} {a : α} {k : α → Option β} : Option.bind (some a) k = k a := rfl
theorem Ok.some {α : Type} {m : Option α} {a : α} (h : m = some a) : Ok m (fun x => x = a) := ⟨a, h, rfl⟩
section
variable {α : Type} [Inhabited α]
theorem take_nextV {s : List α} {i : Int} (h : 0 ≤ i ∧ i < s.length) : s.take (i + 1).toNat = s.take i.toNat ++ [gi s i] := by
  have hl : i.toNat < s.length := by omega
  rw [show (i + 1).toNat = i.toNat + 1 by omega, List.take_succ_eq_append_getElem hl]
  simp [gi, List.getD, List.getElem?_eq_getElem hl]
/-- One by one the same. -/
def eqF [DecidableEq α] (a b : List α) : Option Bool :=
  if ¬ (a.length : Int) = (b.length : Int) then
  some false
  else
  Option.bind (α := Ex (Unit) (Bool)) (loop (σ := Int) (β := Ex (Unit) (Bool)) (fun v3 =>
  if v3 < (a.length : Int) then
  if 0 ≤ v3 ∧ v3 < (a.length : Int) then
  if 0 ≤ v3 ∧ v3 < (b.length : Int) then
  if ¬ (gi a v3) = (gi b v3) then
  some (St.done (Ex.up false))
  else
  if I64 (v3 + 1) then
  some (St.next (v3 + 1))
  else none
  else none
  else none
  else
  some (St.done (Ex.go ()))) 0) fun x => x.then fun _ =>
  some true
theorem eqF_eq [DecidableEq α] {a b : List α} (ha : a.length ≤ 9223372036854775807) : eqF a b = some (decide (a = b)) := by
  unfold eqF
  refine Ok.eq (Ok.ite (fun hn => Ok.ret (decide_eq_false (fun e => hn (by rw [e]))).symm) (fun hn => ?_))
  have hl : a.length = b.length := by omega
  refine Ok.bind (R := fun x => x = if a = b then Ex.go () else Ex.up false) (Ok.loop (fun i : Int => 0 ≤ i ∧ i ≤ a.length ∧ ∀ j : Int, 0 ≤ j → j < i → gi a j = gi b j) (fun i => (a.length - i).toNat) ⟨by omega, by omega, fun j h0 h1 => by omega⟩ (by unfold FUEL; omega) ?_) ?_
  · rintro i ⟨h0, h1, hq⟩
    refine Ok.ite (fun hlt => ?_) (fun hlt => Ok.ret ?_)
    · refine Ok.gd ⟨h0, hlt⟩ (Ok.gd ⟨h0, by omega⟩ (Ok.ite (fun hne => Ok.ret ?_) (fun he => Ok.gd (by unfold I64; omega) (Ok.ret ?_))))
      · show Ex.up false = _
        rw [if_neg (fun e => hne (by rw [e]))]
      · refine ⟨⟨by omega, by omega, fun j j0 j1 => ?_⟩, by omega⟩
        by_cases hj : j = i
        · subst hj; exact Decidable.not_not.1 he
        · exact hq j j0 (by omega)
    · show Ex.go () = _
      rw [if_pos (ext_gi hl fun j j0 j1 => hq j j0 (by omega))]
  · rintro x rfl
    by_cases hab : a = b
    · rw [if_pos hab]; exact Ok.ret (by rw [decide_eq_true hab])
    · rw [if_neg hab]; exact Ok.ret (by rw [decide_eq_false hab])
/-- New memory. -/
def copyF (l : List α) : Option (List α) :=
  Option.bind (α := List α) (loop (σ := List α × Int) (β := List α) (fun (l4, v6) =>
  if v6 < (l.length : Int) then
  if 0 ≤ v6 ∧ v6 < (l.length : Int) then
  if l4.length < 1099511627776 then
  if I64 (v6 + 1) then
  some (St.next ((l4 ++ [(gi l v6)]), (v6 + 1)))
  else none
  else none
  else none
  else
  some (St.done l4)) ([], 0)) fun v2 =>
  some v2
theorem copyF_eq {l : List α} (h : l.length < 1099511627776) : copyF l = some l := by
  unfold copyF
  refine Ok.eq (Ok.bind (R := fun x => x = l) (Ok.loop (fun z : List α × Int => 0 ≤ z.2 ∧ z.2 ≤ l.length ∧ z.1 = l.take z.2.toNat) (fun z => (l.length - z.2).toNat) ⟨by simp, by simp, by simp⟩ (by unfold FUEL; simp; omega) ?_) (fun x hx => Ok.ret hx))
  rintro ⟨m, i⟩ ⟨h0, h1, hq⟩
  try dsimp only at h0 h1 hq ⊢
  subst hq
  refine Ok.ite (fun hlt => ?_) (fun hlt => Ok.ret ?_)
  · refine Ok.gd ⟨h0, hlt⟩ (Ok.gd (by rw [List.length_take]; omega) (Ok.gd (by unfold I64; omega) (Ok.ret ⟨⟨by show 0 ≤ i + 1; omega, by show i + 1 ≤ _; omega, ?_⟩, by show ((l.length : Int) - (i + 1)).toNat < (l.length - i).toNat; omega⟩)))
    exact (take_nextV ⟨h0, hlt⟩).symm
  · show l.take i.toNat = l
    rw [show i.toNat = l.length by omega, List.take_length]
end
section
variable {α : Type}
/-- Each element is written over. -/
def spoilF (x : α) (l : List α) : Option (List α) :=
  loop (σ := Int × List α) (β := List α) (fun (v6, l7) =>
  if v6 < (l.length : Int) then
  if 0 ≤ v6 ∧ v6 < (l.length : Int) then
  if I64 (v6 + 1) then
  some (St.next ((v6 + 1), (si l7 v6 x)))
  else none
  else none
  else
  some (St.done l7)) (0, l)
end
end Go.Vg
set_option linter.unusedSimpArgs false
set_option linter.unusedVariables false
namespace Go.Vg
/-- A plan: one step and what follows; or two steps that may come in either order, each with what follows it. -/
inductive Pl
  | nil
  | st (i : Nat) (k : Kd) (r : Pl)
  | two (i : Nat) (k : Kd) (r : Pl) (j : Nat) (kj : Kd) (rj : Pl)
def Pl.len : Pl → Nat
  | .nil => 0
  | .st _ _ r => r.len + 1
  | .two _ _ r _ _ _ => r.len + 1
def plOk (ops : Array Oper) (full : List (Nat × Kd)) : Array Bool → Pl → Bool
  | listed, .nil => (Region.ready .any ops listed).isEmpty
  | listed, .st i k r => (Region.ready .any ops listed).contains i && full.lookup i == some k &&
    (match k with
      | .pu | .wk => freeOf ops listed i
      | .rd => freeOf ops listed i && full.all fun (j, kj) => kj != .br || listed.getD j true || waits ops j i
      | .so | .br => Region.ready .any ops listed == [i]) &&
    plOk ops full (listed.setIfInBounds i true) r
  | listed, .two i k r j kj rj => Region.ready .any ops listed == [i, j] && full.lookup i == some k && full.lookup j == some kj && (k == .so || k == .br) && (kj == .so || kj == .br) && r.len == rj.len &&
    plOk ops full (listed.setIfInBounds i true) r && plOk ops full (listed.setIfInBounds j true) rj
def RT (P : Program) (n : Nat) (ops : Array Oper) (Q : Po) (full : List (Nat × Kd)) (Cw : As) (pl : Pl) (fr : Fr) (S : As) : Prop :=
  ∀ listed, plOk ops full listed pl = true → noSel ops = true → (∃ w, S w) → AX P n ops Q (fun i => (full.lookup i).getD .so) Cw pl.len listed fr S
/-- One of the two, taken now. -/
def RT1 (P : Program) (n : Nat) (ops : Array Oper) (Q : Po) (full : List (Nat × Kd)) (Cw : As) (i : Nat) (k : Kd) (r : Pl) (fr : Fr) (S : As) : Prop :=
  ∀ listed : Array Bool, full.lookup i = some k → plOk ops full (listed.setIfInBounds i true) r = true → noSel ops = true → (∃ w, S w) →
    StepX P n ops (fun i => (full.lookup i).getD .so) Cw i fr S (fun fr' S' => AX P n ops Q (fun i => (full.lookup i).getD .so) Cw r.len (listed.setIfInBounds i true) fr' S')
section
variable {P : Program} {n : Nat} {ops : Array Oper} {Q : Po} {full : List (Nat × Kd)} {Cw S : As} {fr : Fr} {pl : Pl}
theorem mem_of_lookup {j : Nat} : ∀ {l : List (Nat × Kd)} {k : Kd}, l.lookup j = some k → (j, k) ∈ l
  | x :: l, k, h => by
    obtain ⟨y, ky⟩ := x
    rw [List.lookup_cons] at h
    split at h
    · rename_i e; cases h; simp at e; simp [e]
    · exact List.mem_cons_of_mem _ (mem_of_lookup h)
theorem RT.nil (h : Cont n (Q .normal) fr S) : RT P n ops Q full Cw .nil fr S := fun listed hp _ _ => ⟨by simpa [plOk] using hp, h⟩
theorem RT.quiet {i : Nat} {k : Kd} {o : Oper} {v : Value} (C : As) (hi : ops[i]? = some o) (hk : k = .pu ∨ k = .wk ∨ k = .rd) (hcl : ClE S) (hcw : ∀ w, S w → Cw w) (hC : ∀ w, S w → C w) (hkC : k ≠ .rd → ∀ w, Cw w → C w)
    (hq : QX P n ops o fr C v) (h : RT P n ops Q full Cw pl (putF o.dst v fr) S) : RT P n ops Q full Cw (.st i k pl) fr S := by
  intro listed hp hns hex
  simp only [plOk, Bool.and_eq_true, List.contains_iff_mem, beq_iff_eq] at hp
  obtain ⟨⟨⟨h1, hf⟩, h2⟩, h3⟩ := hp
  have hnb : k ≠ .br := by rcases hk with rfl | rfl | rfl <;> simp
  have hfree : freeOf ops listed i = true := by
    rcases hk with rfl | rfl | rfl <;> simp at h2
    · exact h2
    · exact h2
    · exact h2.1
  refine AX.first (noSel_spec hns) hi (by simp [hf, hnb]) pl.len listed fr S C hcl hcw hC ?_ (freeOf_spec hi hfree) h1 hq (h _ h3 hns hex)
  intro j hkj hl hw
  by_cases hkr : k = .rd
  · subst hkr
    simp only [Bool.and_eq_true, List.all_eq_true] at h2
    have hj : full.lookup j = some .br := by
      cases hlj : full.lookup j with
      | none => simp [hlj] at hkj
      | some x => simp [hlj] at hkj; rw [hkj]
    have := h2.2 _ (mem_of_lookup hj)
    simp [hw] at this
    have e : listed[j]?.getD true = false := by simpa using hl
    rw [e] at this; cases this
  · exact hkC hkr
theorem RT1.solid {i : Nat} {k : Kd} {o : Oper} (hi : ops[i]? = some o) (hk : k = .so ∨ k = .br) {ι : Type} {val : ι → Value} {S' : ι → As} (hd : dOk n o.dst = true) (hg : gval ops fr o.guard = some true) (hs : Sd P n o fr S val S')
    (hcl : ∀ x, ClE (S' x)) (hcw : ∀ x w, S' x w → Cw w) (hpre : k = .so → ∀ x w, S' x w → S w) (h : ∀ x, RT P n ops Q full Cw pl (putF o.dst (val x) fr) (S' x)) : RT1 P n ops Q full Cw i k pl fr S := by
  intro listed hf hp hns hex
  unfold StepX
  simp only [hi]
  refine ⟨hd, .inr ⟨hg, ι, val, S', hs, hcl, hcw, fun hnb => ?_, fun x hey => h x _ hp hns hey⟩⟩
  rcases hk with rfl | rfl
  · exact hpre rfl
  · simp [hf] at hnb
theorem RT.solid {i : Nat} {k : Kd} {o : Oper} (hi : ops[i]? = some o) (hk : k = .so ∨ k = .br) {ι : Type} {val : ι → Value} {S' : ι → As} (hd : dOk n o.dst = true) (hg : gval ops fr o.guard = some true) (hs : Sd P n o fr S val S')
    (hcl : ∀ x, ClE (S' x)) (hcw : ∀ x w, S' x w → Cw w) (hpre : k = .so → ∀ x w, S' x w → S w) (h : ∀ x, RT P n ops Q full Cw pl (putF o.dst (val x) fr) (S' x)) : RT P n ops Q full Cw (.st i k pl) fr S := by
  intro listed hp hns hex
  simp only [plOk, Bool.and_eq_true, List.contains_iff_mem, beq_iff_eq] at hp
  obtain ⟨⟨⟨h1, hf⟩, h2⟩, h3⟩ := hp
  have hone : Region.ready .any ops listed = [i] := by rcases hk with rfl | rfl <;> simpa using h2
  refine ⟨fun h0 => (by rw [hone] at h0; cases h0), fun j hj => ?_⟩
  rw [hone] at hj
  simp at hj; subst hj
  exact RT1.solid hi hk hd hg hs hcl hcw hpre h listed hf h3 hns hex
theorem RT.two {i j : Nat} {k kj : Kd} {r rj : Pl} (h1 : RT1 P n ops Q full Cw i k r fr S) (h2 : RT1 P n ops Q full Cw j kj rj fr S) : RT P n ops Q full Cw (.two i k r j kj rj) fr S := by
  intro listed hp hns hex
  simp only [plOk, Bool.and_eq_true, Bool.or_eq_true, beq_iff_eq] at hp
  obtain ⟨⟨⟨⟨⟨⟨⟨hr, hf⟩, hfj⟩, _⟩, _⟩, hl⟩, hp1⟩, hp2⟩ := hp
  refine ⟨fun h0 => (by rw [hr] at h0; cases h0), fun y hy => ?_⟩
  rw [hr] at hy
  simp at hy
  rcases hy with rfl | rfl
  · exact h1 listed hf hp1 hns hex
  · have := h2 listed hfj hp2 hns hex
    rw [← hl] at this
    exact this
theorem RT.p {i : Nat} {o : Oper} {v : Value} {w0 : World} {G : List Ch} (hcw : ∀ w, Sat w0 G w → Cw w) (hi : ops[i]? = some o) (h : Pu P n o fr v) (hg : gval ops fr o.guard = some true) (hd : dOk n o.dst = true)
    (hr : RT P n ops Q full Cw pl (putF o.dst v fr) (Sat w0 G)) : RT P n ops Q full Cw (.st i .pu pl) fr (Sat w0 G) :=
  RT.quiet (fun _ => True) hi (.inl rfl) (ClE.sat _ _) hcw (fun _ _ => trivial) (fun _ _ _ => trivial) ⟨hd, .inr ⟨hg, h.qt⟩⟩ hr
theorem RT.q {i : Nat} {o : Oper} {v : Value} {w0 : World} {G : List Ch} (hcw : ∀ w, Sat w0 G w → Cw w) (hi : ops[i]? = some o) (h : Qt P n o fr (Sat w0 G) v) (hg : gval ops fr o.guard = some true) (hd : dOk n o.dst = true)
    (hr : RT P n ops Q full Cw pl (putF o.dst v fr) (Sat w0 G)) : RT P n ops Q full Cw (.st i .rd pl) fr (Sat w0 G) :=
  RT.quiet (Sat w0 G) hi (.inr (.inr rfl)) (ClE.sat _ _) hcw (fun _ s => s) (fun h => absurd rfl h) ⟨hd, .inr ⟨hg, h⟩⟩ hr
theorem RT.w {i : Nat} {o : Oper} {v : Value} {w0 : World} {G : List Ch} (hcw : ∀ w, Sat w0 G w → Cw w) (hi : ops[i]? = some o) (h : Qt P n o fr Cw v) (hg : gval ops fr o.guard = some true) (hd : dOk n o.dst = true)
    (hr : RT P n ops Q full Cw pl (putF o.dst v fr) (Sat w0 G)) : RT P n ops Q full Cw (.st i .wk pl) fr (Sat w0 G) :=
  RT.quiet Cw hi (.inr (.inl rfl)) (ClE.sat _ _) hcw hcw (fun _ _ h => h) ⟨hd, .inr ⟨hg, h⟩⟩ hr
theorem RT.know {p : Prop} (hp : ∀ w, S w → p) (h : p → RT P n ops Q full Cw pl fr S) : RT P n ops Q full Cw pl fr S := by
  intro listed h1 h2 ⟨w, s⟩
  exact h (hp w s) listed h1 h2 ⟨w, s⟩
theorem RT1.know {i : Nat} {k : Kd} {p : Prop} (hp : ∀ w, S w → p) (h : p → RT1 P n ops Q full Cw i k pl fr S) : RT1 P n ops Q full Cw i k pl fr S := by
  intro listed h1 h2 h3 ⟨w, s⟩
  exact h (hp w s) listed h1 h2 h3 ⟨w, s⟩
theorem RT.conseq {fr' : Fr} (h : RT P n ops Q full Cw pl fr' S) (hf : Sub fr fr') : RT P n ops Q full Cw pl fr S := by
  intro listed h1 h2 h3
  exact AX.weaken (h listed h1 h2 h3) (fun i v hi => hf.look i v hi)
theorem T.drawnT {id : Nat} (Cw : As) (full : List (Nat × Kd)) (pl : Pl) (hm : P.follows .mixedOrders = true) (hcl : ClE S) (hp : (plOk ops full (Array.replicate ops.size false) pl && noSel ops && pl.len == ops.size) = true)
    (h : RT P n ops Q full Cw pl fr S) : T P n (.region id ops true) fr S Q := by
  simp only [Bool.and_eq_true, beq_iff_eq] at hp
  obtain ⟨⟨h1, h2⟩, h3⟩ := hp
  intro a w k s
  refine wp_region_any hm ?_
  have hx := h _ h1 h2 ⟨_, hcl _ _ s (Ext.drawn w 0)⟩
  rw [h3] at hx
  exact hx.sound _ _ _ _ a _ k (hcl _ _ s (Ext.drawn w _))
end
theorem T.weakS {P : Program} {n : Nat} {fr : Fr} {S S' : As} {Q : Po} {c : Code} (hs : ∀ w, S w → S' w) (h : T P n c fr S' Q) : T P n c fr S Q := fun a w k s => h a w k (hs w s)
section
variable {P : Program} {n : Nat} {ops : Array Oper} {Q : Po} {full plan : List (Nat × Kd)} {Cw S : As} {fr : Fr}
end
theorem Cont.ex {n : Nat} {K : Act → World → Prop} {fr : Fr} {S : As} {ι : Type} {S' : ι → As} (hp : ∀ w, S w → ∃ i, S' i w) (h : ∀ i, Cont n K fr (S' i)) : Cont n K fr S := fun a w k s => let ⟨i, s'⟩ := hp w s; h i a w k s'
theorem Cont.weakS {n : Nat} {K : Act → World → Prop} {fr : Fr} {S S' : As} (hs : ∀ w, S w → S' w) (h : Cont n K fr S') : Cont n K fr S := fun a w k s => h a w k (hs w s)
theorem Sat.cellB {w0 w : World} {G : List Ch} (k : Nat) {b : Nat} {cs cs' : List Value} {t : TypeId} (h : Sat w0 G w) (hk : G[k]? = some (blk b cs t)) (e : cs = cs') : Sat w0 (G.set k (blk b cs' t)) w :=
  h.weaken k hk _ fun p hp => by rw [← e]; exact hp
end Go.Vg
set_option linter.unusedSimpArgs false
set_option linter.unusedVariables false
namespace Go.Vg
open Enc (R)
/-- A function value that reckons p, in whatever world from w on. -/
def FnQ (P : Program) (w : World) (v : Value) {α β : Type} (enc : α → List Value) (dec : β → Value) (p : α → Option β) : Prop :=
  ∃ (f : FuncId) (cs : List Value), v = .func (.func f) #[] cs.toArray ∧ Ent P f ∧ ∀ x r w', Ext w w' → p x = some r → Calls P f (enc x ++ cs).toArray w' fun e w'' => e = .returned (dec r) ∧ Ext w' w''
section
variable {P : Program} {n : Nat} {fr : Fr} {dst : Option Tmp} {ty : TypeId} {pos : String} {aft : Array Edge} {g : Option (Nat × Bool)} {S : As} {w0 : World} {G : List Ch}
theorem FnQ.ext {w w1 : World} {v : Value} {α β : Type} {enc : α → List Value} {dec : β → Value} {p : α → Option β} (he : Ext w w1) (h : FnQ P w v enc dec p) : FnQ P w1 v enc dec p := by
  obtain ⟨f, cs, h1, h2, h3⟩ := h
  exact ⟨f, cs, h1, h2, fun x r w' e hp => h3 x r w' (he.trans e) hp⟩
theorem run_enterV {f : FuncId} {cs : Array Value} {xo : Operand} {xs : List Operand} {ts : Array TypeId} {vs : List Value} (he : Ent P f) (hv : ev fr xo = some (.func (.func f) #[] cs)) (hx : evs fr xs = some vs) {a : Act} (k : Knows n fr a) (w : World) :
    (execOp a.eval ⟨dst, .call { callee := .value xo, args := xs.toArray, argTypes := ts }, ty, pos, aft, g⟩).run P w = .ok (.enter f (vs.toArray ++ cs)) w := by
  obtain ⟨fn, c, h1, h2, h3⟩ := he
  have h2' : ¬ fn.name = "runtime.NumGoroutine" := by simpa using h2
  have := k.evs hx
  have hv' := k.ev hv
  simp [execOp, resolve, hv', Deferred.ofValue, invoke, callFunc, h1, h2', h3, this]
theorem Qt.callV {xo : Operand} {xs : List Operand} {ts : Array TypeId} {v : Value} {α β : Type} {enc : α → List Value} {dec : β → Value} {p : α → Option β} (hv : ev fr xo = some v) (hf : FnQ P w0 v enc dec p) (hs : ∀ w, S w → Ext w0 w) {x : α} {r : β} (hr : p x = some r) (hx : evs fr xs = some (enc x)) :
    Qt P n ⟨dst, .call { callee := .value xo, args := xs.toArray, argTypes := ts }, ty, pos, aft, g⟩ fr S (dec r) := fun a w k s => by
  obtain ⟨f, cs, rfl, he, hc⟩ := hf
  rw [run_enterV he hv hx k]
  have := hc x r w (hs w s) hr
  rw [show (enc x).toArray ++ cs.toArray = (enc x ++ cs).toArray by simp]
  exact ⟨Ext.refl w, this⟩
theorem Pu.makeFunc {f : FuncId} {xs : List Operand} {cs : List Value} (hx : evs fr xs = some cs) : Pu P n ⟨dst, .makeFunc (.func f) #[] xs.toArray, ty, pos, aft, g⟩ fr (.func (.func f) #[] cs.toArray) := fun a k w => by
  have := k.evs hx
  simp [execOp, Instr.makeFunc, this]
theorem Pu.shr1 {xt yt : TypeId} {x y : Operand} {a : Int} (hx : ev fr x = some (.int .u64 a)) (hy : ev fr y = some (.int .u64 1)) (ha : 0 ≤ a) :
    Pu P n ⟨dst, .binOp .shr xt x y yt, ty, pos, aft, g⟩ fr (.int .u64 (a / 2)) := fun ac kn w => by
  have h := shift_shr_any .u64 .u64 a 1 (by decide)
  simp [execOp, kn.ev hx, kn.ev hy, binOp, eqGuard, h, IntKind.bits]
/-- A struct of numbers: where its fields lie. -/
def eqTy (P : Program) (t : TypeId) : Option (List Nat) := match P.underlying t with
  | some (.struct fs) => if (fs.toList.all fun f => f.name != "_" && (match P.underlying f.type with | some (.int _) => true | _ => false) && tySz P f.type == some (1, false)) && !P.stoodInHeld t && !P.eqGuardType P.depth t then some (fs.toList.map (·.offset)) else none
  | _ => none
def eqAt (xs ys : List Value) : List Nat → Option Bool
  | [] => some true
  | o :: r => match xs[o]?, ys[o]? with
    | some (.int k a), some (.int k' b) => if k = k' then (eqAt xs ys r).map fun q => a == b && q else none
    | _, _ => none
theorem run_eqFields {P : Program} {d : Nat} {xs ys : List Value} : ∀ (fs : List Field) {r : Bool}, (fs.all fun f => f.name != "_" && (match P.underlying f.type with | some (.int _) => true | _ => false) && tySz P f.type == some (1, false)) = true → eqAt xs ys (fs.map (·.offset)) = some r → ∀ w, (Op.eqFields (d + 1) xs.toArray ys.toArray fs).run P w = .ok r w
  | [], r, _, hr, w => by cases hr; simp [Op.eqFields]
  | f :: fs, r, hf, hr, w => by
    simp only [List.all_cons, Bool.and_eq_true, bne_iff_ne, ne_eq, beq_iff_eq] at hf
    obtain ⟨⟨⟨h1, h2⟩, h3⟩, h4⟩ := hf
    simp only [List.map_cons, eqAt] at hr
    cases hx : xs[f.offset]? with
    | none => simp [hx] at hr
    | some x =>
      cases hy : ys[f.offset]? with
      | none => cases x <;> simp [hx, hy] at hr
      | some y =>
        rw [hx, hy] at hr
        cases x <;> cases y <;> simp only [reduceCtorEq] at hr
        rename_i k a k' b
        by_cases hk : k = k'
        · subst hk
          simp only [if_true] at hr
          cases he : eqAt xs ys (fs.map (·.offset)) with
          | none => simp [he] at hr
          | some q =>
            simp only [he, Option.map_some, Option.some.injEq] at hr
            subst hr
            have hu : ∃ k', P.underlying f.type = some (.int k') := by
              split at h2
              · rename_i k' e; exact ⟨k', e⟩
              · cases h2
            obtain ⟨k', hu⟩ := hu
            have hpx : (part f.type xs.toArray f.offset).run P w = .ok (.int k a) w := by
              simp [part, run_isAgg_of h3, hx]
            have hpy : (part f.type ys.toArray f.offset).run P w = .ok (.int k b) w := by
              simp [part, run_isAgg_of h3, hy]
            have ih := run_eqFields (d := d) fs h4 he w
            simp only [Op.eqFields, if_pos (show f.name ≠ "_" from h1), Sem.run_bind, hpx, hpy, Result.andThen_ok, run_equalIn_int w d f.type k k' a b hu, Sem.run_ite, Sem.run_pure, ih]
            by_cases hab : a = b
            · simp [hab]
            · simp [hab]
        · simp [hk] at hr
theorem eqTy_spec {P : Program} {t : TypeId} {offs : List Nat} (h : eqTy P t = some offs) : ∃ fs : Array Field, P.underlying t = some (.struct fs) ∧ fs.toList.map (·.offset) = offs ∧ (fs.toList.all fun f => f.name != "_" && (match P.underlying f.type with | some (.int _) => true | _ => false) && tySz P f.type == some (1, false)) = true ∧ P.stoodInHeld t = false ∧ P.eqGuardType P.depth t = false := by
  unfold eqTy at h
  split at h
  · rename_i fs e
    split at h
    · rename_i hc
      simp only [Bool.and_eq_true, Bool.not_eq_true'] at hc
      cases h
      exact ⟨fs, e, rfl, hc.1.1, hc.1.2, hc.2⟩
    · cases h
  · cases h
theorem Pu.eqSt {xt yt : TypeId} {x y : Operand} {xs ys : List Value} {offs : List Nat} {r : Bool} {p : Prop} [Decidable p] (ht : eqTy P xt = some offs) (hx : ev fr x = some (.agg xs.toArray)) (hy : ev fr y = some (.agg ys.toArray)) (hr : eqAt xs ys offs = some r) (he : r = decide p) :
    Pu P n ⟨dst, .binOp .eql xt x y yt, ty, pos, aft, g⟩ fr (.bool (decide p)) := fun ac kn w => by
  obtain ⟨fs, h1, h2, h3, h4, h5⟩ := eqTy_spec ht
  subst h2; subst he
  have hf : P.fieldsOf xt = fs := by simp [Program.fieldsOf, h1]
  have e := run_eqFields (d := 9998) fs.toList h3 hr w
  have e2 := run_equalIn_agg (P := P) w 9999 xt xs.toArray ys.toArray (by rw [hf]; exact h1) h4
  rw [hf, e] at e2
  simp only [execOp, kn.ev hx, kn.ev hy, Sem.run_bind, Sem.run_pure, run_eqGuard_agg w .eql xt x y xs.toArray ys.toArray h5, Result.andThen_ok, run_eql_struct, e2]
theorem blk_ext {w w' : World} {b : Nat} {cs : List Value} {e : TypeId} (he : Ext w w') (h : blk b cs e (hpOf w)) : blk b cs e (hpOf w') := he.hp _ _ h
theorem blk_of {w : World} {k b : Nat} {cs : List Value} {e : TypeId} (s : Sat w0 G w) (hk : G[k]? = some (blk b cs e)) : blk b cs e (hpOf w) := (s.getBlk hk).1
theorem Qt.ldX {t e : TypeId} {x : Operand} {b o : Nat} {cs : List Value} {v : Value} (ht : tySz P t = some (1, false)) (hx : ev fr x = some (.pointer (some ⟨b, o, none⟩))) (hb : blk b cs e (hpOf w0)) (hs : ∀ w, S w → Ext w0 w) (hv : cs[o]? = some v) :
    Qt P n ⟨dst, .load t x, ty, pos, aft, g⟩ fr S v := Qt.ld ht hx fun w s => by
  have h := (hs w s).hp _ _ hb
  have h' : w.heap[b]? = some (.cells cs.toArray e (0, 0)) := h
  simp [World.cell?, h', hv]
end
end Go.Vg
set_option linter.unusedSimpArgs false
set_option linter.unusedVariables false
namespace Go.Vg
open Enc (R)
/-- An array of two numbers. -/
structure Pr2 where
  a : Int
  b : Int
  deriving Inhabited, DecidableEq
instance : Enc Pr2 where
  sz := 2
  R h x cs := cs = [.int .i64 x.a, .int .i64 x.b]
  len := fun e => by rw [e]; rfl
  one := fun e u hu => by
    rw [e] at hu; simp only [List.mem_cons, List.not_mem_nil, or_false] at hu
    rcases hu with rfl | rfl
    · rfl
    · rfl
  mono := fun hl e => e
instance : Flat Pr2 := ⟨fun h => h⟩
section
variable {P : Program} {n : Nat} {fr : Fr} {dst : Option Tmp} {ty : TypeId} {pos : String} {aft : Array Edge} {g : Option (Nat × Bool)} {w0 : World} {G : List Ch}
end
end Go.Vg
set_option linter.unusedVariables false
namespace Go.Vg
/-- A truth value is there, and tells p. -/
def Bo (m : Option Bool) (p : Prop) : Prop := Ok m fun r => (r = true ↔ p)
theorem Bo.of {r : Bool} {p : Prop} (h : r = true ↔ p) : Bo (some r) p := Ok.ret h
theorem Bo.dec {q p : Prop} [Decidable q] (h : q ↔ p) : Bo (some (decide q)) p := Ok.ret (by rw [decide_eq_true_iff]; exact h)
theorem Bo.t {m : Option Bool} {p : Prop} (h : Bo m p) (hp : p) : m = some true := let ⟨r, e, q⟩ := h; by rw [e, q.2 hp]
theorem Bo.f {m : Option Bool} {p : Prop} (h : Bo m p) (hp : ¬ p) : m = some false := by
  obtain ⟨r, e, q⟩ := h
  rw [e]
  cases r with
  | false => rfl
  | true => exact absurd (q.1 rfl) hp
theorem Bo.same {m n : Option Bool} {p : Prop} (h : Bo m p) (k : Bo n p) : m = n := by
  by_cases hp : p
  · rw [h.t hp, k.t hp]
  · rw [h.f hp, k.f hp]
theorem Bo.iff {m : Option Bool} {p q : Prop} (h : Bo m p) (k : p ↔ q) : Bo m q := Ok.mono h fun r e => e.trans k
/-- Over the places from a to n: all are so, or it ends early. -/
theorem scanOk {β : Type} {f : Int → Option (St Int (Ex Unit β))} {a n : Int} (G : Int → Prop) (U : β → Prop) (hn : n - a < 9223372036854775808)
    (step : ∀ v, a ≤ v → v < n → (∀ u, a ≤ u → u < v → G u) → Ok (f v) fun y => match y with | .next s => s = v + 1 ∧ G v | .done (.up r) => U r | .done (.go _) => False)
    (fin : ∀ v, a ≤ v → n ≤ v → f v = some (St.done (Ex.go ()))) : Ok (loop f a) fun x => match x with | .go _ => ∀ u, a ≤ u → u < n → G u | .up r => U r := by
  refine Ok.loop (fun v => a ≤ v ∧ ∀ u, a ≤ u → u < v → u < n → G u) (fun v => (n - v).toNat) ⟨Int.le_refl _, fun u h1 h2 => by omega⟩ (by unfold FUEL; omega) ?_
  rintro v ⟨h1, h2⟩
  by_cases hv : v < n
  · obtain ⟨y, hy, hq⟩ := step v h1 hv (fun u u0 u1 => h2 u u0 u1 (by omega))
    refine ⟨y, hy, ?_⟩
    cases y with
    | next s =>
      obtain ⟨rfl, hg⟩ := hq
      refine ⟨⟨by omega, fun u u0 u1 u2 => ?_⟩, by omega⟩
      by_cases e : u = v
      · subst e; exact hg
      · exact h2 u u0 (by omega) u2
    | done x =>
      cases x with
      | go _ => exact hq.elim
      | up r => exact hq
  · rw [fin v h1 (by omega)]
    exact Ok.ret (fun u u0 u1 => h2 u u0 (by omega) u1)
/-- The same, where a truth value is handed back: false at the first that is not so. -/
theorem scanBo {f : Int → Option (St Int (Ex Unit Bool))} {a n : Int} (G : Int → Prop) (hn : n - a < 9223372036854775808)
    (step : ∀ v, a ≤ v → v < n → (∀ u, a ≤ u → u < v → G u) → Ok (f v) fun y => match y with | .next s => s = v + 1 ∧ G v | .done (.up r) => r = false ∧ ¬ G v | .done (.go _) => False)
    (fin : ∀ v, a ≤ v → n ≤ v → f v = some (St.done (Ex.go ()))) : Bo (Option.bind (loop f a) fun x => x.then fun _ => some true) (∀ u, a ≤ u → u < n → G u) := by
  refine Ok.bind (scanOk G (fun r => r = false ∧ ¬ ∀ u, a ≤ u → u < n → G u) hn (fun v h1 h2 h3 => ?_) fin) (fun x hx => ?_)
  · obtain ⟨y, hy, hq⟩ := step v h1 h2 h3
    refine ⟨y, hy, ?_⟩
    cases y with
    | next s => exact hq
    | done x =>
      cases x with
      | go _ => exact hq
      | up r => exact ⟨hq.1, fun h => hq.2 (h v h1 h2)⟩
  · cases x with
    | go _ => exact Ok.ret ⟨fun _ => hx, fun _ => rfl⟩
    | up r => exact Ok.ret ⟨fun e => (by rw [hx.1] at e; cases e), fun h => absurd h hx.2⟩
theorem gi_mem2 {α : Type} [Inhabited α] {l : List α} {x : α} : x ∈ l ↔ ∃ i : Int, 0 ≤ i ∧ i < l.length ∧ gi l i = x := by
  constructor
  · intro h
    obtain ⟨i, hi, he⟩ := List.mem_iff_getElem.1 h
    exact ⟨i, by omega, by omega, by simp [gi, List.getD, hi, he]⟩
  · rintro ⟨i, h0, h1, rfl⟩
    exact gi_mem ⟨h0, h1⟩
end Go.Vg
set_option linter.unusedSimpArgs false
set_option linter.unusedVariables false
namespace Go.Vg
end Go.Vg
set_option linter.unusedSimpArgs false
set_option linter.unusedVariables false
namespace Go.Vg
open Enc (R)
open Go.RowKit (Below)
def tqV (q : Option Addr × Nat) (n : Nat) : Value := .slice q.1 n q.2
/-- A slice of numbers that may begin anywhere in its array. -/
def tq (e : TypeId) (q : Option Addr × Nat) (xs : List Int) : Ch := fun h =>
  xs.length ≤ q.2 ∧ q.2 ≤ maxLen ∧ (q.2 = 0 ∨ ∃ g o c, q.1 = some ⟨g, o, none⟩ ∧ h g = some (.cells c e (0, 0)) ∧ o + q.2 ≤ c.size ∧ ∀ j x, xs[j]? = some x → c[o + j]? = some (.int .i64 x))
section
variable {w0 w : World} {G : List Ch}
def tqOf (q : Option Nat × Nat) : Option Addr × Nat := (q.1.map fun g => ⟨g, 0, none⟩, q.2)
end
section
variable {P : Program} {n : Nat} {fr : Fr} {dst : Option Tmp} {ty : TypeId} {pos : String} {aft : Array Edge} {g : Option (Nat × Bool)} {S : As} {w0 : World} {G : List Ch} {Q : Po}
end
end Go.Vg
set_option linter.unusedSimpArgs false
set_option linter.unusedVariables false
namespace Go.Vg
open Go.RowKit (Below)
open Enc (R)

/-- Elements that own memory. -/
class Deep (α : Type) [Enc α] where
  D : Hp → α → List Value → Prop
  toR : ∀ {h x c}, D h x c → R h x c
  mono : ∀ {h h' x c}, h.le h' → D h x c → D h' x c

theorem star_mono {A B : Ch} {h h' : Hp} (hl : h.le h') : star A B h → star A B h' := fun ⟨p, q, a, b, c, d, e⟩ => ⟨p, q, a, b, c, Hp.le_trans d hl, Hp.le_trans e hl⟩
theorem stars_mono : ∀ {L : List Ch} {h h' : Hp}, h.le h' → stars L h → stars L h'
  | [], _, _, _, _ => trivial
  | _ :: _, _, _, hl, s => star_mono hl s

section
variable {α : Type} [Enc α] [Deep α]
def DRF : Hp → List α → List Value → Prop
  | _, [], cs => cs = []
  | h, x :: xs, cs => ∃ c r p q, cs = c ++ r ∧ Deep.D p x c ∧ DRF q xs r ∧ (∀ b, p b = none ∨ q b = none) ∧ Hp.le p h ∧ Hp.le q h
theorem DRF.mono {h h' : Hp} (hl : h.le h') : ∀ {xs : List α} {cs : List Value}, DRF h xs cs → DRF h' xs cs
  | [], _, e => e
  | _ :: _, _, ⟨c, r, p, q, e, a, b, d, l1, l2⟩ => ⟨c, r, p, q, e, a, b, d, Hp.le_trans l1 hl, Hp.le_trans l2 hl⟩
theorem DRF.toRF {h : Hp} : ∀ {xs : List α} {cs : List Value}, DRF h xs cs → RF h xs cs
  | [], _, e => e
  | _ :: _, _, ⟨c, r, p, q, e, a, b, d, l1, l2⟩ => ⟨c, r, e, Enc.mono l1 (Deep.toR a), (DRF.toRF b).mono l2⟩
theorem DRF.append {q : Hp} {ys : List α} {ds : List Value} (hy : DRF q ys ds) : ∀ {xs : List α} {cs : List Value} {p r : Hp}, DRF p xs cs → (∀ b, p b = none ∨ q b = none) → p.le r → q.le r → DRF r (xs ++ ys) (cs ++ ds)
  | [], _, p, r, e, _, _, l => by rw [show _ = [] from e]; exact hy.mono l
  | x :: xs, _, p, r, ⟨c, t, p1, q1, e, a, b, d, l1, l2⟩, ha, hp, hq => by
    subst e
    have hu1 : q1.le (q1.over q) := Hp.le_over q1 q
    have hu2 : q.le (q1.over q) := fun k o ho => by
      unfold Hp.over
      cases hk : q1 k with
      | none => exact ho
      | some o' =>
        have h1 := l2 k o' hk
        rcases ha k with h | h
        · rw [h] at h1; cases h1
        · rw [h] at ho; cases ho
    have ih := DRF.append (r := q1.over q) hy b (fun k => by
      rcases ha k with h | h
      · cases hk : q1 k with
        | none => exact .inl rfl
        | some o => have := l2 k o hk; rw [h] at this; cases this
      · exact .inr h) hu1 hu2
    refine ⟨c, t ++ ds, p1, q1.over q, by simp, a, ih, fun k => ?_, Hp.le_trans l1 hp, Hp.over_le (Hp.le_trans l2 hp) hq⟩
    rcases d k with h | h
    · exact .inl h
    · cases hk : p1 k with
      | none => exact .inl rfl
      | some o =>
        have h1 := l1 k o hk
        refine .inr ?_
        unfold Hp.over
        rw [h]
        rcases ha k with h2 | h2
        · rw [h2] at h1; cases h1
        · exact h2
theorem DRF.cons' {A B : Ch} {x : α} {xs : List α} {c r : List Value} (hA : ∀ p, A p → Deep.D p x c) (hB : ∀ q, B q → DRF q xs r) : ∀ h, star A B h → DRF h (x :: xs) (c ++ r) :=
  fun _ ⟨p, q, a, b, d, l1, l2⟩ => ⟨c, r, p, q, rfl, hA p a, hB q b, d, l1, l2⟩
theorem DRF.nil' : ∀ h, stars [] h → DRF h ([] : List α) [] := fun _ _ => rfl
/-- An element turned. -/
theorem DRF.set {h : Hp} : ∀ {xs : List α} {cs : List Value} {i : Nat} {x x1 : α} (f s : Nat) {us : List Value}, DRF h xs cs → xs[i]? = some x → us.length = s → f + s ≤ Enc.sz α → (∀ p c, Deep.D p x c → Deep.D p x1 (c.take f ++ us ++ c.drop (f + s))) →
    DRF h (xs.set i x1) (cs.take (i * Enc.sz α + f) ++ us ++ cs.drop (i * Enc.sz α + f + s))
  | [], _, i, x, x1, f, s, us, _, hi, _, _, _ => by simp at hi
  | y :: xs, _, 0, x, x1, f, s, us, ⟨c, r, p, q, e, a, b, d, l1, l2⟩, hi, hus, hf, hn => by
    simp at hi; subst hi; subst e
    have hc : c.length = Enc.sz α := Enc.len (Deep.toR a)
    refine ⟨_, r, p, q, ?_, hn p c a, b, d, l1, l2⟩
    rw [Nat.zero_mul, Nat.zero_add, List.take_append_of_le_length (by omega), List.drop_append_of_le_length (by omega), List.append_assoc]
    simp
  | y :: xs, _, i + 1, x, x1, f, s, us, ⟨c, r, p, q, e, a, b, d, l1, l2⟩, hi, hus, hf, hn => by
    subst e
    have hc : c.length = Enc.sz α := Enc.len (Deep.toR a)
    have ih := DRF.set (x := x) (x1 := x1) f s b (i := i) (by simpa using hi) hus hf hn
    refine ⟨c, _, p, q, ?_, a, ih, d, l1, l2⟩
    have e1 : (i + 1) * Enc.sz α + f = c.length + (i * Enc.sz α + f) := by rw [hc, Nat.add_mul]; omega
    have e2 : (i + 1) * Enc.sz α + f + s = c.length + (i * Enc.sz α + f + s) := by rw [hc, Nat.add_mul]; omega
    rw [e2, e1, List.take_append, List.drop_append, Nat.add_sub_cancel_left, Nat.add_sub_cancel_left, List.take_of_length_le (by omega), List.drop_of_length_le (by omega)]
    simp
end
/-- Elements that are read beside what the row owns. -/
def FB {α : Type} [Enc α] (B : Hp) : Hp → List α → List Value → Prop := fun h xs cs => RF (h.over B) xs cs
/-- Elements that are read in memory that the row's own part holds. -/
def FH {α : Type} [Enc α] (H : Hp) : Hp → List α → List Value → Prop := fun h xs cs => H.le h ∧ RF h xs cs

class PhM {α : Type} [Enc α] (w0 : World) (Φ : Hp → List α → List Value → Prop) : Prop where
  mono : ∀ {h h' : Hp} {xs : List α} {cs : List Value}, h.le h' → (∀ b o, h' b = some o → w0.heap.size ≤ b) → Φ h xs cs → Φ h' xs cs
class Ph {α : Type} [Enc α] (w0 : World) (Φ : Hp → List α → List Value → Prop) : Prop extends PhM w0 Φ where
  rd : ∀ {w : World} {h : Hp} {xs : List α} {cs : List Value}, Ext w0 w → h.le (hpOf w) → Φ h xs cs → RF (hpOf w) xs cs
instance {α : Type} [Enc α] [Deep α] {w0 : World} : Ph w0 (DRF (α := α)) := { mono := fun hl _ d => d.mono hl, rd := fun _ hl d => d.toRF.mono hl }
instance {α : Type} [Enc α] {w0 : World} : Ph w0 (FB (α := α) (hpOf w0)) :=
  { mono := fun hl hb d => RF.mono (Hp.over_mono' hl fun b o e => by
      have h2 := lt_of_hp e
      rename_i h h' xs cs
      cases hk : h' b with
      | none => rfl
      | some o' => have h1 := hb b o' hk; omega) d, rd := fun he hl d => RF.mono (Hp.over_le hl he.hp) d }
instance {α : Type} [Enc α] {w0 : World} {H : Hp} : Ph w0 (FH (α := α) H) := { mono := fun hl _ d => ⟨Hp.le_trans d.1 hl, d.2.mono hl⟩, rd := fun _ hl d => d.2.mono hl }

def rowG {α : Type} [Enc α] (Φ : Hp → List α → List Value → Prop) (e : TypeId) (v : Value) (xs : List α) : Ch := fun h =>
  (v = .slice none 0 0 ∧ xs = [] ∧ Φ h [] []) ∨
  ∃ g cap cs sp, v = .slice (some ⟨g, 0, none⟩) xs.length cap ∧ h g = some (.cells (cs ++ sp).toArray e (0, 0)) ∧ xs.length ≤ cap ∧ cap ≤ maxLen ∧ (cs ++ sp).length = cap * Enc.sz α ∧ Φ (h.off g) xs cs
abbrev drow {α : Type} [Enc α] [Deep α] (e : TypeId) (v : Value) (xs : List α) : Ch := rowG DRF e v xs

theorem Hp.off_mono {h h' : Hp} (hl : h.le h') (g : Nat) : (h.off g).le (h'.off g) := fun b o e => by
  unfold Hp.off at e ⊢
  split at e
  · cases e
  · rename_i hb; rw [if_neg hb]; exact hl b o e
theorem RFrow {α : Type} [Enc α] {h : Hp} {g cap : Nat} {cs sp : List Value} {e : TypeId} {xs : List α} (h2 : h g = some (.cells (cs ++ sp).toArray e (0, 0))) (h3 : xs.length ≤ cap) (h4 : cap ≤ maxLen) (h6 : RF h xs cs) : R h xs [.slice (some ⟨g, 0, none⟩) xs.length cap] :=
  ⟨_, cap, rfl, h3, h4, .inr ⟨g, 0, cs, rfl, h6, ⟨_, e, _, h2, fun j v hj => by
    rw [Nat.zero_add, List.getElem?_toArray, List.getElem?_append_left (List.getElem?_eq_some_iff.1 hj).1]
    exact hj⟩⟩⟩
theorem row_R {α : Type} [Enc α] {e : TypeId} {v : Value} {xs : List α} {h : Hp} : row nilH e v xs h → R h xs [v]
  | .inl ⟨h1, h2⟩ => by subst h1; subst h2; exact ⟨none, 0, rfl, by simp, by simp, .inl rfl⟩
  | .inr ⟨g, cap, cs, sp, h1, h2, h3, h4, h5, h6⟩ => by subst h1; exact RFrow h2 h3 h4 (h6.mono (Hp.over_le (Hp.off_le _ _) (nilH_le _)))
theorem drow_R {α : Type} [Enc α] [Deep α] {e : TypeId} {v : Value} {xs : List α} {h : Hp} : drow e v xs h → R h xs [v]
  | .inl ⟨h1, h2, _⟩ => by subst h1; subst h2; exact ⟨none, 0, rfl, by simp, by simp, .inl rfl⟩
  | .inr ⟨g, cap, cs, sp, h1, h2, h3, h4, h5, h6⟩ => by subst h1; exact RFrow h2 h3 h4 (h6.toRF.mono (Hp.off_le _ _))
section
variable {w0 w : World} {G : List Ch} {α : Type} [Enc α] {Φ : Hp → List α → List Value → Prop}
theorem rowG_fits {e : TypeId} {q : Option Nat × Nat} {m : Nat} {xs : List α} {p : Hp} (hp : rowG Φ e (rowV q m) xs p) : m = xs.length ∧ m ≤ q.2 ∧ q.2 ≤ maxLen := by
  rcases hp with ⟨hv, rfl, _⟩ | ⟨g, cap, cs, sp, hv, _, hle, hm, _⟩
  · simp only [rowV, Value.slice.injEq] at hv
    obtain ⟨_, rfl, h2⟩ := hv
    rw [h2]; exact ⟨rfl, Nat.le_refl _, Nat.zero_le _⟩
  · simp only [rowV, Value.slice.injEq] at hv
    obtain ⟨_, rfl, h2⟩ := hv
    rw [h2]; exact ⟨rfl, hle, hm⟩
theorem Sat.row_fitsG {k m : Nat} {e : TypeId} {q : Option Nat × Nat} {xs : List α} (h : Sat w0 G w) (hk : G[k]? = some (rowG Φ e (rowV q m) xs)) : m = xs.length ∧ m ≤ q.2 ∧ q.2 ≤ maxLen := by
  obtain ⟨p, hp, _⟩ := h.get k hk
  exact rowG_fits hp
theorem Sat.row_someG {k m : Nat} {e : TypeId} {q : Option Nat × Nat} {xs : List α} (h : Sat w0 G w) (hk : G[k]? = some (rowG Φ e (rowV q m) xs)) (hne : 0 < xs.length) : ∃ g cap, q = (some g, cap) := by
  obtain ⟨p, hp, _⟩ := h.get k hk
  rcases hp with ⟨_, rfl, _⟩ | ⟨g, cap, cs, sp, hv, _⟩
  · simp at hne
  · obtain ⟨o, c⟩ := q
    cases o with
    | none => simp [rowV] at hv
    | some g' => exact ⟨g', c, rfl⟩
theorem Sat.getRowG [Ph w0 Φ] {k : Nat} {e : TypeId} {v : Value} {xs : List α} (h : Sat w0 G w) (hk : G[k]? = some (rowG Φ e v xs)) : R (hpOf w) xs [v] := by
  obtain ⟨p, hp, hl, hb⟩ := h.get k hk
  rcases hp with ⟨rfl, rfl, _⟩ | ⟨g, cap, cs, sp, rfl, hg, hle, hm, hlen, hr⟩
  · exact ⟨none, 0, rfl, by simp, by simp, .inl rfl⟩
  · exact RFrow (hl _ _ hg) hle hm (Ph.rd (w0 := w0) h.ext (Hp.le_trans (Hp.off_le _ _) hl) hr)
theorem Rd.ofG [Ph w0 Φ] (k : Nat) {e : TypeId} {v : Value} {xs : List α} (hk : G[k]? = some (rowG Φ e v xs)) : Rd (Sat w0 G) xs [v] := fun w s => s.getRowG hk
theorem Sat.nilRowG [Deep α] (e : TypeId) (h : Sat w0 G w) : Sat w0 (G ++ [drow e (rowV (none, 0) 0) ([] : List α)]) w := h.addEmpty _ (fun p => .inl ⟨rfl, rfl, rfl⟩)
/-! ### What stands still -/
def fz (h : Hp) : Ch := fun p => p = h
def Held (S : As) (H : Hp) : Prop := ∀ w, S w → H.le (hpOf w)
theorem Held.base : Held (Sat w0 G) (hpOf w0) := fun w s => s.ext.hp
theorem Held.fz {h : Hp} (k : Nat) (hk : G[k]? = some (fz h)) : Held (Sat w0 G) h := fun w s => by
  obtain ⟨p, hp, hl, _⟩ := s.get k hk
  rw [← show p = h from hp]; exact hl
theorem Held.over {S : As} {A B : Hp} (a : Held S A) (b : Held S B) : Held S (A.over B) := fun w s => Hp.over_le (a w s) (b w s)
theorem Sat.freeze (k : Nat) {C : Ch} (hk : G[k]? = some C) (s : Sat w0 G w) : ∃ h, C h ∧ Sat w0 (G.set k (fz h)) w := by
  obtain ⟨h1, own, h2⟩ := s
  have hli : k < G.length := (List.getElem?_eq_some_iff.1 hk).1
  obtain ⟨p, hp, hb⟩ := h2 k C hk
  refine ⟨p, hp, h1, own, fun j D hj => ?_⟩
  by_cases hjk : k = j
  · subst hjk
    rw [List.getElem?_set_self hli] at hj
    exact ⟨p, by have := Option.some.inj hj; subst this; rfl, hb⟩
  · rw [List.getElem?_set_ne hjk] at hj
    exact h2 j D hj
theorem Sat.thaw {h : Hp} {C : Ch} (hz : C h) (k : Nat) (hk : G[k]? = some (fz h)) (s : Sat w0 G w) : Sat w0 (G.set k C) w := s.weaken k hk C fun p e => by rw [show p = h from e]; exact hz
theorem Rd.held {S : As} {H : Hp} (hh : Held S H) {β : Type} [Enc β] {x : β} {cs : List Value} (hr : R H x cs) : Rd S x cs := fun w s => Enc.mono (hh w s) hr
theorem Rd.ofFz {h : Hp} (k : Nat) (hk : G[k]? = some (fz h)) {β : Type} [Enc β] {x : β} {cs : List Value} (hr : R h x cs) : Rd (Sat w0 G) x cs := Rd.held (Held.fz k hk) hr
end
section
variable {P : Program} {n : Nat} {fr : Fr} {S : As} {Q : Po}
theorem RS.exP {ops : Array Oper} {l : List Oper} {ι : Type} {p : ι → Prop} {S' : ι → As} (hp : ∀ w, S w → ∃ i, p i ∧ S' i w) (h : ∀ i, p i → RS P n ops Q l fr (S' i)) : RS P n ops Q l fr S := fun a w k s => let ⟨i, h1, s'⟩ := hp w s; h i h1 a w k s'
theorem T.exP {c : Code} {ι : Type} {p : ι → Prop} {S' : ι → As} (hp : ∀ w, S w → ∃ i, p i ∧ S' i w) (h : ∀ i, p i → T P n c fr (S' i) Q) : T P n c fr S Q := fun a w k s => let ⟨i, h1, s'⟩ := hp w s; h i h1 a w k s'
theorem Cont.exP {K : Act → World → Prop} {ι : Type} {p : ι → Prop} {S' : ι → As} (hp : ∀ w, S w → ∃ i, p i ∧ S' i w) (h : ∀ i, p i → Cont n K fr (S' i)) : Cont n K fr S := fun a w k s => let ⟨i, h1, s'⟩ := hp w s; h i h1 a w k s'
end

/-- A plain fact as a chunk. -/
def pc (p : Prop) : Ch := fun _ => p
theorem Sat.addPc {w0 w : World} {G : List Ch} {p : Prop} (s : Sat w0 G w) (hp : p) : Sat w0 (G ++ [pc p]) w := s.addEmpty _ fun _ => hp
theorem Sat.getPc {w0 w : World} {G : List Ch} {p : Prop} (k : Nat) (s : Sat w0 G w) (hk : G[k]? = some (pc p)) : p := by
  obtain ⟨q, hq, _⟩ := s.get k hk
  exact hq
/-! ### Two chunks for one -/
theorem Sat.merge2 {w0 w : World} {G : List Ch} {A B : Ch} (k j : Nat) (hk : G[k]? = some A) (hj : G[j]? = some B) (hne : k ≠ j) (C : Ch) (hc : ∀ p q r : Hp, A p → B q → (∀ b, p b = none ∨ q b = none) → p.le r → q.le r → C r) (s : Sat w0 G w) :
    Sat w0 ((G.set k C).set j dead) w := by
  obtain ⟨h1, own, h2⟩ := s
  obtain ⟨p, hp, hb⟩ := h2 k A hk
  obtain ⟨q, hq, hbq⟩ := h2 j B hj
  have hkl := (List.getElem?_eq_some_iff.1 hk).1
  have hjl := (List.getElem?_eq_some_iff.1 hj).1
  refine ⟨h1, fun b => if own b = j then k else own b, fun i E hi => ?_⟩
  have hd : ∀ b, p b = none ∨ q b = none := fun b => by
    cases e : p b with
    | none => exact .inl rfl
    | some o =>
      cases e' : q b with
      | none => exact .inr rfl
      | some o' => have h3 := (hb b o e).2.1; have h4 := (hbq b o' e').2.1; omega
  by_cases hij : j = i
  · subst hij
    rw [List.getElem?_set_self (by simpa using hjl)] at hi
    exact ⟨fun _ => none, by rw [← Option.some.inj hi]; trivial, fun b o e => by cases e⟩
  · rw [List.getElem?_set_ne hij] at hi
    by_cases hik : k = i
    · subst hik
      rw [List.getElem?_set_self hkl] at hi
      have := (Option.some.inj hi).symm; subst this
      refine ⟨p.over q, hc p q _ hp hq hd (Hp.le_over p q) (fun b o e => ?_), fun b o e => ?_⟩
      · unfold Hp.over
        rcases hd b with h | h
        · rw [h]; exact e
        · rw [h] at e; cases e
      · unfold Hp.over at e
        split at e
        · rename_i o' e'; cases e
          obtain ⟨a1, a2, a3⟩ := hb b _ e'
          exact ⟨a1, by simp [a2, hne], a3⟩
        · obtain ⟨a1, a2, a3⟩ := hbq b _ e
          exact ⟨a1, by simp [a2], a3⟩
    · rw [List.getElem?_set_ne hik] at hi
      obtain ⟨u, hu, hbu⟩ := h2 i E hi
      refine ⟨u, hu, fun b o e => ?_⟩
      obtain ⟨a1, a2, a3⟩ := hbu b o e
      exact ⟨a1, by show (if own b = j then k else own b) = i; rw [a2, if_neg (fun h => hij h.symm)], a3⟩
/-- The chunk j behind k's, as parts of one. -/
theorem Sat.starAt {w0 w : World} {G : List Ch} {A B : Ch} (k j : Nat) (s : Sat w0 G w) (hk : G[k]? = some A) (hj : G[j]? = some B) (hne : k ≠ j) : Sat w0 ((G.set k (star A B)).set j dead) w :=
  s.merge2 k j hk hj hne _ fun p q r a b c d e => ⟨p, q, a, b, c, d, e⟩
theorem Sat.noStars {w0 w : World} {G : List Ch} (s : Sat w0 G w) : Sat w0 (G ++ [stars []]) w := s.addEmpty _ fun _ => trivial

/-! ### append -/
section
variable {P : Program} {n : Nat} {fr : Fr} {dst : Option Tmp} {ty : TypeId} {pos : String} {aft : Array Edge} {g : Option (Nat × Bool)} {S : As} {w0 : World} {G : List Ch}
def rowAndG {α : Type} [Enc α] (Φ : Hp → List α → List Value → Prop) (e : TypeId) (v : Value) (xs ys : List α) (news : List Value) : Ch := fun h =>
  (v = .slice none 0 0 ∧ xs = [] ∧ Φ h ys news) ∨
  ∃ g cap cs sp, v = .slice (some ⟨g, 0, none⟩) xs.length cap ∧ h g = some (.cells (cs ++ sp).toArray e (0, 0)) ∧ xs.length ≤ cap ∧ cap ≤ maxLen ∧ (cs ++ sp).length = cap * Enc.sz α ∧ cs.length = xs.length * Enc.sz α ∧ Φ (h.off g) (xs ++ ys) (cs ++ news)
theorem Sat.appendG {α : Type} [Enc α] {Φ : Hp → List α → List Value → Prop} [PhM w0 Φ] {w : World} (s : Sat w0 G w) {k : Nat} {C : Ch} (hk : G[k]? = some C) {t e ty : TypeId} {by' : Nat} {z : Value} {v : Value} {xs ys : List α} {news : List Value}
    (ht : slTy P t = some (e, Enc.sz α, by')) (hz : zeroOf P e = some z) (hzs : z.cells.size = Enc.sz α)
    (hC : ∀ p, C p → (∀ b o, p b = some o → w0.heap.size ≤ b) → rowAndG Φ e v xs ys news p) {q : Addr} {m c : Nat} (hm : ys.length = m) (hnews : ∀ j u, news[j]? = some u → w.cell? (q.add j) = some u)
    (hnl : news.length = ys.length * Enc.sz α) (hone : ∀ u ∈ news, u.oneCell' = true) (hbytes : (xs.length + m) * by' ≤ 140737488355328) (h63 : xs.length + m ≤ maxLen) :
    ∃ v' w', (Builtin.append_ #[t, t] ty #[v, .slice (some q) m c]).run P w = .ok v' w' ∧ Sat w0 (G.set k (rowG Φ e v' (xs ++ ys))) w' := by
  obtain ⟨hu, i, hi, hsz', hby⟩ := slTy_spec ht
  subst hby
  obtain ⟨i', hi', hz'⟩ := Option.bind_eq_some_iff.1 hz
  rw [hi] at hi'; cases hi'
  have h63' : ((xs.length + m : Nat) : Int) ≤ 9223372036854775807 := by unfold maxLen at h63; omega
  subst hm
  have hw0 := s.ext.size
  have hnl' : news.length = ys.length * i.size := by rw [hnl, hsz']
  -- a new array
  have fresh : ∀ (A : Hp → Hp) (cs : List Value) (cap : Nat), (∀ p, (A p).le p) → cs.length = xs.length * Enc.sz α → (∀ p, C p → p.le (hpOf w) → (∀ b o, p b = some o → w0.heap.size ≤ b) → Φ (A p) (xs ++ ys) (cs ++ news)) → xs.length + ys.length ≤ cap → cap ≤ maxLen →
      Sat w0 (G.set k (rowG Φ e (.slice (some ⟨w.heap.size, 0, none⟩) (xs ++ ys).length cap) (xs ++ ys))) (w.drew.alloc (.cells (cs.toArray ++ news.toArray ++ Builtin.zeroCells z.cells (cap - (xs.length + ys.length))) e)) := by
    intro A cs cap hA hcl hcs hcap hcm
    refine s.turn k hk _ rfl rfl rfl (by simp) fun p hp hl hb => ?_
    have hxy := hcs p hp hl hb
    refine ⟨fun b hb' hn => (Below.heap_alloc w.drew _ b (by simpa using hb')), fun b => if b = w.heap.size then some (.cells (cs.toArray ++ news.toArray ++ Builtin.zeroCells z.cells (cap - (xs.length + ys.length))) e (0, 0)) else p b, .inr ?_, fun b o hbo => ?_⟩
    · refine ⟨w.heap.size, cap, cs ++ news, (Builtin.zeroCells z.cells (cap - (xs.length + ys.length))).toList, rfl, ?_, by simpa using hcap, hcm, ?_, ?_⟩
      · simp
      · simp only [List.length_append, hcl, hnl, Array.length_toList, size_zeroCells, hzs, ← Nat.add_mul]
        congr 1
        omega
      · refine PhM.mono (w0 := w0) (h := A p) (fun b o hbo => ?_) (fun b o hbo => ?_) hxy
        · have hpb := hA p b o hbo
          have hlt := lt_of_hp (hl b o hpb)
          unfold Hp.off
          rw [if_neg (by omega)]
          show (if b = w.heap.size then _ else p b) = _
          rw [if_neg (by omega)]; exact hpb
        · unfold Hp.off at hbo
          split at hbo
          · cases hbo
          · rename_i hne
            dsimp only at hbo
            rw [if_neg hne] at hbo
            exact hb b o hbo
    · dsimp only at hbo
      split at hbo
      · rename_i hbw
        subst hbw; cases hbo
        exact ⟨.inr (Nat.le_refl _), heap_alloc_new w.drew _⟩
      · exact ⟨.inl (by rw [hbo]; simp), by rw [Below.heap_alloc w.drew _ b (by simpa using lt_of_hp (hl b o hbo))]; exact hl b o hbo⟩
  obtain ⟨p0, hp0, hl0, hb0⟩ := s.get k hk
  rcases hC p0 hp0 hb0 with ⟨rfl, rfl, hy⟩ | ⟨g, cap, cs, sp, rfl, hgp, hlc, hcm, hlen, hcsl, hxy⟩
  · by_cases hm : ys.length = 0
    · have hys : ys = [] := List.eq_nil_of_length_eq_zero hm
      subst hys
      have hn : news = [] := List.eq_nil_of_length_eq_zero (by simpa using hnl)
      subst hn
      refine ⟨.slice none 0 0, w, ?_, ?_⟩
      · simp [Builtin.append_, run_underlying hu, sizeOf, typeInfo, hi, Builtin.lenOf, Builtin.firstCells, loadCells, loadCellsFrom]
      · refine ⟨s.1, ?_⟩
        obtain ⟨h1, own, h2⟩ := s
        refine ⟨own, fun j E hj => ?_⟩
        by_cases hjk : k = j
        · subst hjk
          rw [List.getElem?_set_self (List.getElem?_eq_some_iff.1 hk).1] at hj
          have := (Option.some.inj hj).symm; subst this
          obtain ⟨p, hp, hb⟩ := h2 k C hk
          refine ⟨p, ?_, hb⟩
          rcases hC p hp (fun b o e => (hb b o e).1) with ⟨_, _, hy'⟩ | ⟨g, cap, cs, sp, hv, _⟩
          · exact .inl ⟨rfl, rfl, hy'⟩
          · cases hv
        · rw [List.getElem?_set_ne hjk] at hj
          exact h2 j E hj
    · have hr := run_append_nil (P := P) w t ty e i z hu hi hz' q ys.length c news hnl' hnews (by omega) (by simpa using h63') (by have hb := hbytes; simp only [List.length_nil, Nat.zero_add] at hb; omega)
      have hge := grownCap_ge w ys.length 0 e
      have hle := grownCap_le_maxLen w ys.length 0 e (by simpa using h63)
      have := fresh (fun p => p) [] (grownCap w ys.length 0 e) (fun p => Hp.le_refl p) (by simp) (fun p hp hl hb => ?_) (by simpa using hge) hle
      · simp only [List.nil_append, List.length_nil, Nat.zero_add, Array.empty_append] at this
        exact ⟨_, _, hr, by simpa using this⟩
      · rcases hC p hp hb with ⟨_, _, hy'⟩ | ⟨g, cap, cs, sp, hv, _⟩
        · exact hy'
        · cases hv
  · have hwg := hl0 _ _ hgp
    -- two tellings of one array
    have same : ∀ p', C p' → p'.le (hpOf w) → (∀ b o, p' b = some o → w0.heap.size ≤ b) → p' g = some (.cells (cs ++ sp).toArray e (0, 0)) ∧ Φ (p'.off g) (xs ++ ys) (cs ++ news) := fun p' hp' hl' hb' => by
      rcases hC p' hp' hb' with ⟨hv, _, _⟩ | ⟨g', cap', cs', sp', hv, hgp', hlc', hcm', hlen', hcsl', hxy'⟩
      · cases hv
      · simp only [Value.slice.injEq, Option.some.injEq, Addr.mk.injEq, and_true, true_and] at hv
        obtain ⟨rfl, rfl⟩ := hv
        have he : cs' = cs ∧ sp' = sp := by
          have h1 := hl' _ _ hgp'
          have h2 : w.heap[g]? = some (.cells (cs ++ sp).toArray e (0, 0)) := hwg
          have h3 : w.heap[g]? = some (.cells (cs' ++ sp').toArray e (0, 0)) := h1
          rw [h2] at h3
          have h4 : cs ++ sp = cs' ++ sp' := by simpa using h3
          have h5 := congrArg (List.take cs.length) h4
          rw [List.take_left, hcsl, ← hcsl', List.take_left] at h5
          refine ⟨h5.symm, ?_⟩
          rw [h5] at h4
          exact (List.append_cancel_left h4).symm
        obtain ⟨rfl, rfl⟩ := he
        exact ⟨hgp', hxy'⟩
    by_cases hroom : xs.length + ys.length ≤ cap
    · have hfit : xs.length * i.size + news.length ≤ (cs ++ sp).toArray.size := by
        simp only [List.size_toArray, hlen, hnl', hsz', ← Nat.add_mul]
        exact Nat.mul_le_mul_right _ hroom
      have hr := run_append_room (P := P) w t ty e i hu hi g xs.length cap (cs ++ sp).toArray hwg q ys.length c news hnl' hnews hone hroom hfit
      refine ⟨_, _, hr, ?_⟩
      have harr : (cs ++ sp).toArray.toList.take (xs.length * i.size) ++ news ++ (cs ++ sp).toArray.toList.drop (xs.length * i.size + news.length) = (cs ++ news) ++ sp.drop news.length := by
        rw [hsz', ← hcsl]
        simp [List.drop_append]
      rw [harr]
      refine s.turn k hk _ rfl rfl rfl (by simp) fun p hp hl hb => ?_
      obtain ⟨hgp', hxy'⟩ := same p hp hl hb
      refine ⟨fun b hb' hn => setRow_other w g b _ (fun e' => by rw [e', hgp'] at hn; cases hn), fun b => if b = g then some (.cells ((cs ++ news) ++ sp.drop news.length).toArray e (0, 0)) else p b, .inr ?_, fun b o hbo => ?_⟩
      · refine ⟨g, cap, cs ++ news, sp.drop news.length, by simp, by simp, by simpa using hroom, hcm, ?_, ?_⟩
        · have h1 := hlen
          simp only [List.length_append, List.length_drop] at h1 ⊢
          have h2 : cs.length + news.length ≤ cap * Enc.sz α := by rw [hcsl, hnl, ← Nat.add_mul]; exact Nat.mul_le_mul_right _ hroom
          omega
        · have hoff : Hp.off (fun b => if b = g then some (.cells ((cs ++ news) ++ sp.drop news.length).toArray e (0, 0)) else p b) g = p.off g := by
            funext b; unfold Hp.off; split <;> simp_all
          rw [hoff]
          exact hxy'
      · dsimp only at hbo
        split at hbo
        · rename_i hbg; subst hbg; cases hbo
          exact ⟨.inl (by rw [hgp']; simp), setRow_heap w b _ _ e (0, 0) hwg⟩
        · rename_i hbg
          exact ⟨.inl (by rw [hbo]; simp), by rw [setRow_other w g b _ hbg]; exact hl b o hbo⟩
    · have holds : ∀ j u, cs[j]? = some u → w.cell? ((⟨g, 0, none⟩ : Addr).add j) = some u := fun j u hj => by
        have hw : w.heap[g]? = some (.cells (cs ++ sp).toArray e (0, 0)) := hwg
        rw [add_lit]
        simp [World.cell?, hw, List.getElem?_append_left (List.getElem?_eq_some_iff.1 hj).1, hj]
      have hr := run_append_grow (P := P) w t ty e i z hu hi hz' ⟨g, 0, none⟩ xs.length cap cs (by rw [hcsl, hsz']) holds q ys.length c news hnl' hnews (by omega) h63' (growslice_fits (by omega) hbytes)
      have hge := grownCap_ge w (xs.length + ys.length) cap e
      have hle := grownCap_le_maxLen w (xs.length + ys.length) cap e h63
      have := fresh (fun p => p.off g) cs (grownCap w (xs.length + ys.length) cap e) (fun p => Hp.off_le p g) hcsl (fun p hp hl hb => (same p hp hl hb).2) hge hle
      exact ⟨_, _, hr, by simpa using this⟩
theorem rowG_shape {α : Type} [Enc α] {Φ : Hp → List α → List Value → Prop} {e : TypeId} {v : Value} {xs : List α} {p : Hp} (h : rowG Φ e v xs p) : ∃ q : Option Nat × Nat, v = rowV q xs.length := by
  rcases h with ⟨rfl, rfl, _⟩ | ⟨g, cap, cs, sp, rfl, _⟩
  · exact ⟨(none, 0), rfl⟩
  · exact ⟨(some g, cap), rfl⟩
/-- append of what lies somewhere, the row and what the new elements own being one chunk. -/
theorem Sd.appG {α : Type} [Enc α] {Φ : Hp → List α → List Value → Prop} [PhM w0 Φ] (k : Nat) {C : Ch} (hk : G[k]? = some C) {x y : Operand} {t e : TypeId} {by' : Nat} {z v : Value} {xs ys : List α} {q : Addr} {m c : Nat}
    (ht : slTy P t = some (e, Enc.sz α, by')) (hz : zeroOf P e = some z) (hzs : z.cells.size = Enc.sz α) (hx : ev fr x = some v) (hy : ev fr y = some (.slice (some q) m c))
    (hm : ys.length = m) (hlt : xs.length + ys.length < 1099511627776) (hby : by' ≤ 128)
    (hC : ∀ w, Sat w0 G w → ∃ news, (∀ p, C p → p.le (hpOf w) → (∀ b o, p b = some o → w0.heap.size ≤ b) → rowAndG Φ e v xs ys news p) ∧ (∀ j u, news[j]? = some u → w.cell? (q.add j) = some u) ∧ news.length = ys.length * Enc.sz α ∧ ∀ u ∈ news, u.oneCell' = true) :
    Sd P n ⟨dst, .call { callee := .builtin .append, args := #[x, y], argTypes := #[t, t] }, ty, pos, aft, g⟩ fr (Sat w0 G) (fun q => rowV q (xs ++ ys).length) (fun q => Sat w0 (G.set k (rowG Φ e (rowV q (xs ++ ys).length) (xs ++ ys)))) := fun a w kn s => by
  have hbytes : (xs.length + m) * by' ≤ 140737488355328 := by
    have := Nat.mul_le_mul (show xs.length + m ≤ 1099511627776 by omega) hby; omega
  have h63 : xs.length + m ≤ maxLen := by unfold maxLen; omega
  obtain ⟨news, hC, h1, h2, h3⟩ := hC w s
  -- the chunk in this world
  have s' : Sat w0 (G.set k (fun p => C p ∧ p.le (hpOf w))) w := by
    obtain ⟨e1, own, h2⟩ := s
    refine ⟨e1, own, fun j E hj => ?_⟩
    by_cases hjk : k = j
    · subst hjk
      rw [List.getElem?_set_self (List.getElem?_eq_some_iff.1 hk).1] at hj
      have := (Option.some.inj hj).symm; subst this
      obtain ⟨p, hp, hb⟩ := h2 k C hk
      exact ⟨p, ⟨hp, fun b o e => (hb b o e).2.2⟩, hb⟩
    · rw [List.getElem?_set_ne hjk] at hj
      exact h2 j E hj
  have hkl : k < G.length := (List.getElem?_eq_some_iff.1 hk).1
  obtain ⟨v', w', hr, hs⟩ := s'.appendG (ty := ty) (k := k) (List.getElem?_set_self hkl) ht hz hzs (fun p hp hb => hC p hp.1 hp.2 hb) hm h1 h2 h3 hbytes h63 (c := c)
  rw [run_builtin_append kn hx hy hr]
  rw [List.set_set] at hs
  obtain ⟨p, hp, _⟩ := hs.get k (List.getElem?_set_self hkl)
  obtain ⟨q', hq⟩ := rowG_shape hp
  exact ⟨q', hq, by show Sat w0 (G.set k (rowG Φ e (rowV q' (xs ++ ys).length) (xs ++ ys))) w'; rw [← hq]; exact hs⟩
/-- A row and what some new elements own. -/
def dand {α : Type} [Enc α] [Deep α] (e : TypeId) (v : Value) (xs ys : List α) (news : List Value) : Ch := star (drow e v xs) (fun q => DRF q ys news)
theorem dand_row {α : Type} [Enc α] [Deep α] {e : TypeId} {v : Value} {xs ys : List α} {news : List Value} {r : Hp} (h : dand e v xs ys news r) : rowAndG DRF e v xs ys news r := by
  obtain ⟨p, q, hp, hq, hd, l1, l2⟩ := h
  rcases hp with ⟨rfl, rfl, _⟩ | ⟨g, cap, cs, sp, hv, hg, h3, h4, h5, h6⟩
  · exact .inl ⟨rfl, rfl, hq.mono l2⟩
  · refine .inr ⟨g, cap, cs, sp, hv, l1 _ _ hg, h3, h4, h5, h6.toRF.length, ?_⟩
    refine DRF.append hq h6 (fun b => ?_) (Hp.off_mono l1 g) (fun b o e => ?_)
    · rcases hd b with h | h
      · refine .inl ?_
        unfold Hp.off
        split
        · rfl
        · exact h
      · exact .inr h
    · unfold Hp.off
      have hbg : b ≠ g := fun e' => by
        subst e'
        rcases hd b with h | h
        · rw [h] at hg; cases hg
        · rw [h] at e; cases e
      rw [if_neg hbg]; exact l2 b o e
/-- append(s, x ..): a literal's elements; what they own is chunk j. -/
theorem Sd.appL {α : Type} [Enc α] [Deep α] (k k1 j : Nat) {L : Ch} {x y : Operand} {t e e' : TypeId} {by' : Nat} {z v : Value} {xs : List α} (ys : List α) {news : List Value} {b m c : Nat}
    (hk : G[k]? = some (drow e v xs)) (hk1 : G[k1]? = some (blk b news e')) (hj : G[j]? = some L) (hL : ∀ q, L q → DRF q ys news) (hne : (Nat.beq k j || (Nat.beq k1 k || Nat.beq k1 j)) = false)
    (ht : slTy P t = some (e, Enc.sz α, by')) (hz : zeroOf P e = some z) (hzs : z.cells.size = Enc.sz α) (hx : ev fr x = some v) (hy : ev fr y = some (.slice (some ⟨b, 0, none⟩) m c))
    (hm : ys.length = m) (hlt : xs.length + ys.length < 1099511627776) (hby : by' ≤ 128) :
    Sd P n ⟨dst, .call { callee := .builtin .append, args := #[x, y], argTypes := #[t, t] }, ty, pos, aft, g⟩ fr (Sat w0 G) (fun q => rowV q (xs ++ ys).length) (fun q => Sat w0 ((G.set k (drow e (rowV q (xs ++ ys).length) (xs ++ ys))).set j dead)) := fun a w kn s => by
  simp only [Bool.or_eq_false_iff] at hne
  have nkj : k ≠ j := fun h => by subst h; rw [Nat.beq_refl] at hne; cases hne.1
  have n1k : k1 ≠ k := fun h => by subst h; rw [Nat.beq_refl] at hne; cases hne.2.1
  have n1j : k1 ≠ j := fun h => by subst h; rw [Nat.beq_refl] at hne; cases hne.2.2
  have hkl := (List.getElem?_eq_some_iff.1 hk).1
  have hjl := (List.getElem?_eq_some_iff.1 hj).1
  have s1 := s.merge2 k j hk hj nkj (dand e v xs ys news) fun p q r a b d l1 l2 => ⟨p, q, a, hL q b, d, l1, l2⟩
  have hk' : ((G.set k (dand e v xs ys news)).set j dead)[k]? = some (dand e v xs ys news) := by rw [List.getElem?_set_ne nkj.symm, List.getElem?_set_self hkl]
  have hk1' : ((G.set k (dand e v xs ys news)).set j dead)[k1]? = some (blk b news e') := by rw [List.getElem?_set_ne n1j.symm, List.getElem?_set_ne n1k.symm]; exact hk1
  have h := Sd.appG (P := P) (n := n) (fr := fr) (dst := dst) (ty := ty) (pos := pos) (aft := aft) (g := g) (Φ := DRF) k hk' ht hz hzs hx hy hm hlt hby (fun w' s' => ⟨news, fun p hp _ _ => dand_row hp, fun j u hj => by
      rw [add_lit]; simp [World.cell?, (s'.getBlk hk1').1, hj], by
      obtain ⟨p, ⟨p1, q1, _, hq, _⟩, _⟩ := s'.get k hk'
      exact hq.toRF.length, by
      obtain ⟨p, ⟨p1, q1, _, hq, _⟩, _⟩ := s'.get k hk'
      exact hq.toRF.one⟩) a w kn s1
  have e2 : ∀ E : Ch, ((G.set k (dand e v xs ys news)).set j dead).set k E = (G.set k E).set j dead := fun E => by rw [List.set_comm _ _ nkj.symm, List.set_set]
  simp only [e2] at h
  exact h
/-- append(s, l...): another row that owns its elements. -/
theorem Sd.appD {α : Type} [Enc α] [Deep α] (k j : Nat) {x y : Operand} {t e e' : TypeId} {by' : Nat} {z v vy : Value} {xs ys : List α}
    (hk : G[k]? = some (drow e v xs)) (hj : G[j]? = some (drow e' vy ys)) (hne : Nat.beq k j = false)
    (ht : slTy P t = some (e, Enc.sz α, by')) (hz : zeroOf P e = some z) (hzs : z.cells.size = Enc.sz α) (hx : ev fr x = some v) (hy : ev fr y = some vy)
    (hlt : xs.length + ys.length < 1099511627776) (hby : by' ≤ 128) :
    Sd P n ⟨dst, .call { callee := .builtin .append, args := #[x, y], argTypes := #[t, t] }, ty, pos, aft, g⟩ fr (Sat w0 G) (fun q => rowV q (xs ++ ys).length) (fun q => Sat w0 ((G.set k (drow e (rowV q (xs ++ ys).length) (xs ++ ys))).set j dead)) := fun a w kn s => by
  have nkj : k ≠ j := fun h => by subst h; rw [Nat.beq_refl] at hne; cases hne
  have hkl := (List.getElem?_eq_some_iff.1 hk).1
  have hjl := (List.getElem?_eq_some_iff.1 hj).1
  obtain ⟨pj, hpj, hlj, _⟩ := s.get j hj
  rcases hpj with ⟨rfl, rfl, _⟩ | ⟨gj, capj, csj, spj, rfl, hgj, hlcj, hcmj, hlenj, hdj⟩
  · -- nothing
    obtain ⟨p, hp, _⟩ := s.get k hk
    obtain ⟨q', hq⟩ := rowG_shape hp
    subst hq
    obtain ⟨hu, i, hi, _, _⟩ := slTy_spec ht
    have hf := rowG_fits hp
    have hr : (Builtin.append_ #[t, t] ty #[rowV q' xs.length, .slice none 0 0]).run P w = .ok (rowV q' xs.length) w := by
      obtain ⟨o, cc⟩ := q'
      have h1 : xs.length ≤ cc := hf.2.1
      cases o <;> simp [rowV, Builtin.append_, run_underlying hu, sizeOf, typeInfo, hi, Builtin.lenOf, Builtin.firstCells, storeCells, h1]
    rw [run_builtin_append kn hx hy hr]
    refine ⟨q', by simp, ?_⟩
    have := s.weaken j hj dead (fun _ _ => trivial)
    simp only [List.append_nil]
    have e1 : (G.set k (drow e (rowV q' xs.length) xs)) = G := by
      obtain ⟨hl, he⟩ := List.getElem?_eq_some_iff.1 hk
      exact he ▸ List.set_getElem_self hl
    rw [e1]; exact this
  · obtain ⟨pj', hpj', s0⟩ := s.freeze j hj
    obtain ⟨gj', capj', csj', spj', hvj, hgj', hlcj', hcmj', hlenj', hdj'⟩ := (hpj'.resolve_left fun h => by have h1 := h.1; cases h1)
    simp only [Value.slice.injEq, Option.some.injEq, Addr.mk.injEq, and_true, true_and] at hvj
    obtain ⟨rfl, rfl⟩ := hvj
    have hk0 : (G.set j (fz pj'))[k]? = some (drow e v xs) := by rw [List.getElem?_set_ne nkj.symm]; exact hk
    have hj0 : (G.set j (fz pj'))[j]? = some (fz pj') := List.getElem?_set_self hjl
    have s1 := s0.merge2 k j hk0 hj0 nkj (fun r => pj'.le r ∧ dand e v xs ys csj' r) fun p q r a b d l1 l2 => by
      rw [show q = pj' from b] at d l2
      exact ⟨l2, p, pj', a, hdj'.mono (Hp.off_le _ _), d, l1, l2⟩
    have hk' : (((G.set j (fz pj')).set k (fun r => pj'.le r ∧ dand e v xs ys csj' r)).set j dead)[k]? = some (fun r => pj'.le r ∧ dand e v xs ys csj' r) := by
      rw [List.getElem?_set_ne nkj.symm, List.getElem?_set_self (by simpa using hkl)]
    have h := Sd.appG (P := P) (n := n) (fr := fr) (dst := dst) (ty := ty) (pos := pos) (aft := aft) (g := g) (Φ := DRF) k hk' ht hz hzs hx hy rfl hlt hby (fun w' s' => ⟨csj', fun p hp _ _ => dand_row hp.2, fun i u hi => by
        obtain ⟨p, ⟨hp, _⟩, hl, _⟩ := s'.get k hk'
        have hw : w'.heap[gj]? = some (.cells (csj' ++ spj').toArray e' (0, 0)) := hl _ _ (hp _ _ hgj')
        rw [add_lit]
        simp [World.cell?, hw, List.getElem?_append_left (List.getElem?_eq_some_iff.1 hi).1, hi], hdj'.toRF.length, hdj'.toRF.one⟩) a w kn s1
    have e2 : ∀ C : Ch, (((G.set j (fz pj')).set k (fun r => pj'.le r ∧ dand e v xs ys csj' r)).set j dead).set k C = (G.set k C).set j dead := fun C => by
      rw [List.set_comm _ _ nkj.symm, List.set_set, List.set_comm _ _ nkj.symm, List.set_set]
    simp only [e2] at h
    exact h
end
/-! ### Elements that hold slices -/
section
variable {P : Program} {n : Nat} {fr : Fr} {o : Oper}
theorem Sd.pre {S S0 : As} {ι : Type} {val : ι → Value} {S' : ι → As} (hs : ∀ w, S w → S0 w) (h : Sd P n o fr S0 val S') : Sd P n o fr S val S' := fun a w k s => h a w k (hs w s)
end
section
variable {P : Program} {n : Nat} {fr : Fr} {dst : Option Tmp} {ty : TypeId} {pos : String} {aft : Array Edge} {g : Option (Nat × Bool)} {S : As} {w0 : World} {G : List Ch}
theorem R_one {α : Type} [Enc α] {H : Hp} {l : List α} {c : List Value} (h : R H l c) : ∃ u, c = [u] ∧ R H l [u] := by
  obtain ⟨p, cap, rfl, s⟩ := h
  exact ⟨_, rfl, p, cap, rfl, s⟩
/-- An element's own cells, where they lie. -/
theorem R_el {α : Type} [Enc α] [Inhabited α] {H : Hp} {xs : List α} {b o len cap : Nat} (h : R H xs [.slice (some ⟨b, o, none⟩) len cap]) {ji : Int} (hj : 0 ≤ ji ∧ ji < (xs.length : Int)) :
    ∃ c, R H (gi xs ji) c ∧ AtH H b (o + ji.toNat * Enc.sz α) c := by
  obtain ⟨p', cap', e, s⟩ := h
  simp only [List.cons.injEq, Value.slice.injEq, and_true] at e
  obtain ⟨rfl, rfl, rfl⟩ := e
  rcases s.2.2 with rfl | ⟨b', o', cs, hp, hr, ha⟩
  · simp at hj; omega
  · simp only [Option.some.injEq, Addr.mk.injEq, and_true] at hp
    obtain ⟨rfl, rfl⟩ := hp
    obtain ⟨c, hc, hg⟩ := hr.get (gi_get hj)
    obtain ⟨d, t, f, e1, e2⟩ := ha
    exact ⟨c, hc, d, t, f, e1, fun j v hv => by rw [Nat.add_assoc]; exact e2 _ _ (hg j v hv)⟩
theorem Qt.ldZ {t s : TypeId} {x : Operand} {b o : Nat} {cs : List Value} {H : Hp} (ht : tySz P t = some (s, true)) (hx : ev fr x = some (.pointer (some ⟨b, o, none⟩))) (ha : AtH H b o cs) (hh : Held S H) (hl : cs.length = s) :
    Qt P n ⟨dst, .load t x, ty, pos, aft, g⟩ fr S (.agg cs.toArray) := Qt.ldA ht hx hl fun w s j v hj => (ha.mono (hh w s)).cell hj
theorem Qt.ldZ1 {t : TypeId} {x : Operand} {b o f : Nat} {cs : List Value} {v : Value} {H : Hp} (ht : tySz P t = some (1, false)) (hx : ev fr x = some (.pointer (some ⟨b, o + f, none⟩))) (ha : AtH H b o cs) (hh : Held S H) (hv : cs[f]? = some v) :
    Qt P n ⟨dst, .load t x, ty, pos, aft, g⟩ fr S v := Qt.ld ht hx fun w s => (ha.mono (hh w s)).cell hv
theorem Qt.ldZ0 {t : TypeId} {x : Operand} {b o : Nat} {cs : List Value} {v : Value} {H : Hp} (ht : tySz P t = some (1, false)) (hx : ev fr x = some (.pointer (some ⟨b, o, none⟩))) (ha : AtH H b o cs) (hh : Held S H) (hv : cs[0]? = some v) :
    Qt P n ⟨dst, .load t x, ty, pos, aft, g⟩ fr S v := Qt.ldZ1 (f := 0) ht hx ha hh hv
/-- A literal's block as a row; what its elements own is chunk j. -/
theorem Sat.litRowG {α : Type} [Enc α] [Deep α] {w : World} {m b : Nat} {cs : List Value} {e : TypeId} {L : Ch} (k j : Nat) (xs : List α) (h : Sat w0 G w) (hk : G[k]? = some (blk b cs e)) (hj : G[j]? = some L) (hne : k ≠ j) (hm : m ≤ maxLen) (hl : xs.length = m) (hr : ∀ q, L q → DRF q xs cs) :
    Sat w0 ((G.set k (drow e (rowV (some b, m) m) xs)).set j dead) w :=
  h.merge2 k j hk hj hne _ fun p q r a bq d l1 l2 => by
    have hp : p b = some (.cells cs.toArray e (0, 0)) := a
    refine .inr ⟨b, m, cs, [], by rw [hl]; rfl, by simpa using l1 _ _ hp, by omega, hm, by have := (hr q bq).toRF.length; simp [this, hl], (hr q bq).mono fun b' o e' => ?_⟩
    unfold Hp.off
    have hbg : b' ≠ b := fun e2 => by
      subst e2
      rcases d b' with h | h
      · rw [h] at hp; cases hp
      · rw [h] at e'; cases e'
    rw [if_neg hbg]; exact l2 b' o e'
end
section
variable {P : Program} {n : Nat} {fr : Fr} {w0 : World} {G : List Ch}
/-- Two results, the first one a struct in a block of its own. -/
theorem Cont.retCT {fn : Func} {R : Ending → World → Prop} {t t' ty sz b : Nat} {e : TypeId} {cs : List Value} {v' : Value} (k : Nat) (hr : fn.results = #[.cell t ty, .tmp t']) (ht : tySz P ty = some (sz, true)) (hv : look fr t = some (.pointer (some ⟨b, 0, none⟩)))
    (hk : G[k]? = some (blk b cs e)) (hl : cs.length = sz) (hv' : look fr t' = some v') (h : ∀ w, Sat w0 G w → R (.returned (.tuple #[.agg cs.toArray, v'])) w) : Cont n (bodyPost P fn R .ret) fr (Sat w0 G) := fun a w kn s => by
  have hld := run_loadVarA (P := P) (w := w) (b := b) (o := 0) ht hl (fun j v hj => by
    have := (s.getBlk hk).1
    simp [World.cell?, this, hj])
  have hp := kn.getD hv
  have hq := kn.getD hv'
  refine bodyPost_ret (v := .tuple #[.agg cs.toArray, v']) ?_ kn.defers (h w s)
  have hp' : a.tmps[t]?.getD undef = .pointer (some ⟨b, 0, none⟩) := by simpa [Array.getD_eq_getD_getElem?] using hp
  have hq' : a.tmps[t']?.getD undef = v' := by simpa [Array.getD_eq_getD_getElem?] using hq
  simp [results, hr, hp', hq', asAddr, hld]
end
/-! ### Function values over what holds slices -/
/-- A function value that reckons p of whatever is told so, in whatever world from w on. -/
def FnR (P : Program) (w : World) (v : Value) {α β : Type} (Rel : α → List Value → Prop) (dec : β → Value) (p : α → Option β) : Prop :=
  ∃ (f : FuncId) (cs : List Value), v = .func (.func f) #[] cs.toArray ∧ Ent P f ∧ ∀ x c r w', Rel x c → Ext w w' → p x = some r → Calls P f (c ++ cs).toArray w' fun e w'' => e = .returned (dec r) ∧ Ext w' w''
section
variable {P : Program} {n : Nat} {fr : Fr} {dst : Option Tmp} {ty : TypeId} {pos : String} {aft : Array Edge} {g : Option (Nat × Bool)} {S : As} {w0 : World} {G : List Ch}
theorem FnR.ext {w w1 : World} {v : Value} {α β : Type} {Rel : α → List Value → Prop} {dec : β → Value} {p : α → Option β} (he : Ext w w1) (h : FnR P w v Rel dec p) : FnR P w1 v Rel dec p := by
  obtain ⟨f, cs, h1, h2, h3⟩ := h
  exact ⟨f, cs, h1, h2, fun x c r w' hc e hp => h3 x c r w' hc (he.trans e) hp⟩
theorem Qt.callR {xo : Operand} {xs : List Operand} {ts : Array TypeId} {v : Value} {α β : Type} {Rel : α → List Value → Prop} {dec : β → Value} {p : α → Option β} (hv : ev fr xo = some v) (hf : FnR P w0 v Rel dec p) (hs : ∀ w, S w → Ext w0 w) {x : α} {r : β} (hr : p x = some r) {c : List Value} (hx : evs fr xs = some c) (hc : Rel x c) :
    Qt P n ⟨dst, .call { callee := .value xo, args := xs.toArray, argTypes := ts }, ty, pos, aft, g⟩ fr S (dec r) := fun a w k s => by
  obtain ⟨f, cs, rfl, he, hcc⟩ := hf
  rw [run_enterV he hv hx k]
  have := hcc x c r w hc (hs w s) hr
  rw [show c.toArray ++ cs.toArray = (c ++ cs).toArray by simp]
  exact ⟨Ext.refl w, this⟩
end
end Go.Vg
set_option linter.unusedSimpArgs false
set_option linter.unusedVariables false
namespace Go.Vg
open Enc (R)

structure Raw3 where
  a : Value
  b : Value
  c : Value
  ok : (a.oneCell' && (b.oneCell' && c.oneCell')) = true
instance : Inhabited Raw3 := ⟨⟨.bool false, .bool false, .bool false, rfl⟩⟩
def Raw3.cells (x : Raw3) : List Value := [x.a, x.b, x.c]
instance : Enc Raw3 where
  sz := 3
  R _ x cs := cs = [x.a, x.b, x.c]
  len := fun e => by rw [e]; rfl
  one := fun {h x cs} e u hu => by
    have := x.ok
    simp only [Bool.and_eq_true] at this
    rw [e] at hu; simp only [List.mem_cons, List.not_mem_nil, or_false] at hu
    rcases hu with rfl | rfl | rfl
    · exact this.1
    · exact this.2.1
    · exact this.2.2
  mono := fun _ e => e
instance : Flat Raw3 := ⟨fun h => h⟩

theorem RF_raw {h : Hp} : ∀ {xs : List Raw3} {cs : List Value}, RF h xs cs ↔ cs = xs.flatMap Raw3.cells
  | [], cs => by simp [RF]
  | x :: xs, cs => by
    constructor
    · rintro ⟨c, r, e, hx, hr⟩
      have e1 : c = [x.a, x.b, x.c] := hx
      rw [e, e1, RF_raw.1 hr]; rfl
    · intro e
      exact ⟨x.cells, xs.flatMap Raw3.cells, by rw [e]; rfl, rfl, RF_raw.2 rfl⟩

section
variable {α : Type} [Enc α] [Deep α]
def DZ : Hp → List (α × Raw3) → Prop
  | _, [] => True
  | h, z :: zs => ∃ p q, Deep.D p z.1 z.2.cells ∧ DZ q zs ∧ (∀ b, p b = none ∨ q b = none) ∧ Hp.le p h ∧ Hp.le q h
abbrev inn (zs : List (α × Raw3)) : Ch := fun p => DZ p zs
theorem DZ.mono {h h' : Hp} (hl : h.le h') : ∀ {zs : List (α × Raw3)}, DZ h zs → DZ h' zs
  | [], _ => trivial
  | _ :: _, ⟨p, q, a, b, d, l1, l2⟩ => ⟨p, q, a, b, d, Hp.le_trans l1 hl, Hp.le_trans l2 hl⟩
theorem DZ.toDRF {h : Hp} : ∀ {zs : List (α × Raw3)}, DZ h zs → DRF h (zs.map (·.1)) ((zs.map (·.2)).flatMap Raw3.cells)
  | [], _ => rfl
  | z :: zs, ⟨p, q, a, b, d, l1, l2⟩ => ⟨z.2.cells, _, p, q, rfl, a, b.toDRF, d, l1, l2⟩
theorem three {c : List Value} (hl : c.length = 3) (h1 : ∀ u ∈ c, u.oneCell' = true) : ∃ r : Raw3, c = r.cells := by
  match c, hl with
  | [x, y, z], _ => exact ⟨⟨x, y, z, by simp [h1 x (by simp), h1 y (by simp), h1 z (by simp)]⟩, rfl⟩
theorem DZ.ofDRF (hsz : Enc.sz α = 3) {h : Hp} : ∀ {xs : List α} {cs : List Value}, DRF h xs cs → ∃ zs : List (α × Raw3), zs.map (·.1) = xs ∧ cs = (zs.map (·.2)).flatMap Raw3.cells ∧ DZ h zs
  | [], cs, e => ⟨[], rfl, e, trivial⟩
  | x :: xs, cs, ⟨c, r, p, q, e, a, b, d, l1, l2⟩ => by
    obtain ⟨zs, h1, h2, h3⟩ := DZ.ofDRF hsz b
    have hc := Deep.toR a
    obtain ⟨t, rfl⟩ := three (by rw [Enc.len hc, hsz]) (Enc.one hc)
    exact ⟨(x, t) :: zs, by simp [h1], by rw [e, h2]; rfl, p, q, a, h3, d, l1, l2⟩
theorem apart_le {p p' q : Hp} (hl : p.le p') (h : ∀ b, p' b = none ∨ q b = none) : ∀ b, p b = none ∨ q b = none := fun b => by
  rcases h b with h | h
  · cases hk : p b with
    | none => exact .inl rfl
    | some o => have := hl b o hk; rw [h] at this; cases this
  · exact .inr h
theorem apart_symm {p q : Hp} (h : ∀ b, p b = none ∨ q b = none) : ∀ b, q b = none ∨ p b = none := fun b => (h b).symm
theorem le_over_r {p q : Hp} (h : ∀ b, p b = none ∨ q b = none) : q.le (p.over q) := fun b o e => by
  unfold Hp.over
  rcases h b with h | h
  · rw [h]; exact e
  · rw [h] at e; cases e
theorem apart_over {p q r : Hp} (h1 : ∀ b, p b = none ∨ q b = none) (h2 : ∀ b, p b = none ∨ r b = none) : ∀ b, p b = none ∨ (q.over r) b = none := fun b => by
  rcases h1 b with h | h
  · exact .inl h
  · rcases h2 b with k | k
    · exact .inl k
    · exact .inr (by unfold Hp.over; rw [h]; exact k)
theorem DZ.perm {zs zs' : List (α × Raw3)} (hp : zs.Perm zs') : ∀ {h : Hp}, DZ h zs → DZ h zs' := by
  induction hp with
  | nil => exact fun h => h
  | cons z _ ih => exact fun ⟨p, q, a, b, d, l1, l2⟩ => ⟨p, q, a, ih b, d, l1, l2⟩
  | swap x y l =>
    rintro h ⟨p, q, a, ⟨p2, q2, a2, b2, d2, k1, k2⟩, d, l1, l2⟩
    have d3 : ∀ b, p b = none ∨ q2 b = none := apart_symm (apart_le k2 (apart_symm d))
    have d4 : ∀ b, p2 b = none ∨ p b = none := apart_le k1 (apart_symm d)
    exact ⟨p2, p.over q2, a2, ⟨p, q2, a, b2, d3, Hp.le_over p q2, le_over_r d3⟩, apart_over d4 d2, Hp.le_trans k1 l2, Hp.over_le l1 (Hp.le_trans k2 l2)⟩
  | trans _ _ ih1 ih2 => exact fun h => ih2 (ih1 h)
theorem DZ.sub {zs zs' : List (α × Raw3)} (hs : zs'.Sublist zs) : ∀ {h : Hp}, DZ h zs → DZ h zs' := by
  induction hs with
  | slnil => exact fun h => h
  | cons z _ ih => exact fun ⟨p, q, a, b, d, l1, l2⟩ => (ih b).mono l2
  | cons_cons z _ ih => exact fun ⟨p, q, a, b, d, l1, l2⟩ => ⟨p, q, a, ih b, d, l1, l2⟩
theorem DZ.append {q : Hp} {ys : List (α × Raw3)} (hy : DZ q ys) : ∀ {xs : List (α × Raw3)} {p r : Hp}, DZ p xs → (∀ b, p b = none ∨ q b = none) → p.le r → q.le r → DZ r (xs ++ ys)
  | [], p, r, _, _, _, l => hy.mono l
  | x :: xs, p, r, ⟨p1, q1, a, b, d, l1, l2⟩, ha, hp, hq => by
    have h1 := apart_le l2 ha
    have h2 := apart_le l1 ha
    exact ⟨p1, q1.over q, a, DZ.append hy b h1 (Hp.le_over q1 q) (le_over_r h1), apart_over d h2, Hp.le_trans l1 hp, Hp.over_le (Hp.le_trans l2 hp) hq⟩
end

/-! ### Chunks -/
section
variable {w0 w : World} {G : List Ch}
theorem Sat.unstarAt {A B : Ch} (k : Nat) (s : Sat w0 G w) (hk : G[k]? = some (star A B)) : Sat w0 (G.set k A ++ [B]) w := by
  obtain ⟨e, own, h2⟩ := s
  have hkl := (List.getElem?_eq_some_iff.1 hk).1
  obtain ⟨r, ⟨p, q, hp, hq, hd, h3, h4⟩, hbr⟩ := h2 k _ hk
  classical
  refine ⟨e, fun b => if own b = k ∧ p b = none then G.length else if own b = G.length then G.length + 1 else own b, fun j E hj => ?_⟩
  rw [List.getElem?_append] at hj
  split at hj
  · rename_i hjl
    simp only [List.length_set] at hjl
    by_cases hjk : k = j
    · subst hjk
      rw [List.getElem?_set_self hkl] at hj
      have := (Option.some.inj hj).symm; subst this
      refine ⟨p, hp, fun b o hbo => ?_⟩
      obtain ⟨a1, a2, a3⟩ := hbr b o (h3 b o hbo)
      exact ⟨a1, by dsimp only; rw [if_neg (by rw [hbo]; simp), if_neg (by omega)]; exact a2, a3⟩
    · rw [List.getElem?_set_ne hjk] at hj
      obtain ⟨u, hu, hb⟩ := h2 j E hj
      refine ⟨u, hu, fun b o hbo => ?_⟩
      obtain ⟨a1, a2, a3⟩ := hb b o hbo
      exact ⟨a1, by dsimp only; rw [if_neg (by intro h; omega), if_neg (by omega)]; exact a2, a3⟩
  · rename_i hjl
    simp only [List.length_set] at hjl hj
    have hj0 : j = G.length := by
      rcases Nat.lt_or_ge (j - G.length) 1 with h | h
      · omega
      · rw [List.getElem?_eq_none (by simpa using h)] at hj; cases hj
    subst hj0
    simp at hj; subst hj
    refine ⟨q, hq, fun b o hbo => ?_⟩
    obtain ⟨a1, a2, a3⟩ := hbr b o (h4 b o hbo)
    have hpn : p b = none := (hd b).resolve_right (by rw [hbo]; simp)
    exact ⟨a1, by dsimp only; rw [if_pos ⟨a2, hpn⟩], a3⟩
variable {α : Type} [Enc α] [Deep α]
/-- A row whose elements own memory: its cells, and what they own. -/
theorem Sat.toZ (hsz : Enc.sz α = 3) (k : Nat) {e : TypeId} {v : Value} {xs : List α} (s : Sat w0 G w) (hk : G[k]? = some (drow e v xs)) : ∃ zs : List (α × Raw3), zs.map (·.1) = xs ∧ Sat w0 (G.set k (row nilH e v (zs.map (·.2))) ++ [inn zs]) w := by
  have hkl := (List.getElem?_eq_some_iff.1 hk).1
  obtain ⟨p, hp, s1⟩ := s.freeze k hk
  have hk1 : (G.set k (fz p))[k]? = some (fz p) := List.getElem?_set_self hkl
  rcases hp with ⟨rfl, rfl, _⟩ | ⟨g, cap, cs, sp, rfl, hg, h3, h4, h5, h6⟩
  · refine ⟨[], rfl, ?_⟩
    have s2 := s1.weaken k hk1 (row nilH e (.slice none 0 0) ([] : List Raw3)) (fun _ _ => .inl ⟨rfl, rfl⟩)
    rw [List.set_set] at s2
    exact s2.addEmpty _ fun _ => trivial
  · obtain ⟨zs, hz1, hz2, hz3⟩ := DZ.ofDRF hsz h6
    refine ⟨zs, hz1, ?_⟩
    have hln : (zs.map (·.2)).length = xs.length := by rw [← hz1]; simp
    have s2 := s1.weaken k hk1 (star (row nilH e (.slice (some ⟨g, 0, none⟩) xs.length cap) (zs.map (·.2))) (inn zs)) (fun r hr => by
      rw [show r = p from hr]
      refine ⟨fun b => if b = g then p b else none, p.off g, .inr ⟨g, cap, cs, sp, by rw [hln], by simp [hg], by rw [hln]; exact h3, h4, by rw [h5, hsz]; rfl, RF_raw.2 hz2⟩, hz3, fun b => ?_, fun b o hb => ?_, Hp.off_le _ _⟩
      · by_cases hb : b = g
        · exact .inr (by simp [Hp.off, hb])
        · exact .inl (by simp [hb])
      · dsimp only at hb
        split at hb
        · exact hb
        · cases hb)
    rw [List.set_set] at s2
    have s3 := s2.unstarAt k (List.getElem?_set_self hkl)
    rw [List.set_set] at s3
    exact s3
theorem Sat.ofZ (hsz : Enc.sz α = 3) (k j : Nat) {e : TypeId} {v : Value} {rs : List Raw3} {zs : List (α × Raw3)} (s : Sat w0 G w) (hk : G[k]? = some (row nilH e v rs)) (hj : G[j]? = some (inn zs)) (hne : k ≠ j) (hr : zs.map (·.2) = rs) : Sat w0 ((G.set k (drow e v (zs.map (·.1)))).set j dead) w :=
  s.merge2 k j hk hj hne _ fun p q r a b d l1 l2 => by
    subst hr
    have hln : (zs.map (·.2)).length = (zs.map (·.1)).length := by simp
    rcases a with ⟨rfl, hz⟩ | ⟨g, cap, cs, sp, rfl, hg, h3, h4, h5, h6⟩
    · have hz' : zs = [] := by simpa using hz
      subst hz'
      exact .inl ⟨rfl, rfl, rfl⟩
    · have e1 : cs = (zs.map (·.2)).flatMap Raw3.cells := RF_raw.1 h6
      refine .inr ⟨g, cap, cs, sp, by rw [hln], l1 _ _ hg, by rw [← hln]; exact h3, h4, by rw [h5, hsz]; rfl, ?_⟩
      rw [e1]
      refine (DZ.toDRF b).mono fun c o hc => ?_
      unfold Hp.off
      have hcg : c ≠ g := fun e2 => by
        subst e2
        rcases d c with h | h
        · rw [h] at hg; cases hg
        · rw [h] at hc; cases hc
      rw [if_neg hcg]; exact l2 c o hc
end
/-! ### A slice of one's own that may begin anywhere in its array; arrays of three -/
def osl {α : Type} [Enc α] (e : TypeId) (v : Value) (xs : List α) : Ch := fun h =>
  ∃ p cap, v = .slice p xs.length cap ∧ xs.length ≤ cap ∧ cap ≤ maxLen ∧ (xs = [] ∨ ∃ b o c cs, p = some ⟨b, o, none⟩ ∧ h b = some (.cells c e (0, 0)) ∧ o + xs.length * Enc.sz α ≤ c.size ∧ RF nilH xs cs ∧ ∀ j v, cs[j]? = some v → c[o + j]? = some v)
section
variable {w0 w : World} {G : List Ch} {α : Type} [Enc α]
theorem osl_R {e : TypeId} {v : Value} {xs : List α} {h : Hp} (ho : osl e v xs h) : R h xs [v] := by
  obtain ⟨p, cap, rfl, h1, h2, h3⟩ := ho
  refine ⟨p, cap, rfl, h1, h2, ?_⟩
  rcases h3 with h3 | ⟨b, o, c, cs, h4, h5, _, h6, h7⟩
  · exact .inl h3
  · exact .inr ⟨b, o, cs, h4, h6.mono (nilH_le _), c, e, (0, 0), h5, h7⟩
theorem Sat.osl_form {k : Nat} {e : TypeId} {v : Value} {xs : List α} (s : Sat w0 G w) (hk : G[k]? = some (osl e v xs)) : ∃ p c, v = .slice p xs.length c := by
  obtain ⟨p, ⟨q, cap, hq, _⟩, _⟩ := s.get k hk
  exact ⟨q, cap, hq⟩
theorem Sat.nilOsl (e : TypeId) (s : Sat w0 G w) : Sat w0 (G ++ [osl e (.slice none 0 0) ([] : List α)]) w := s.addEmpty _ fun _ => ⟨none, 0, rfl, by simp, by simp, .inl rfl⟩
theorem Sat.rowOsl [Flat α] {q : Option Nat × Nat} {m : Nat} {e : TypeId} {xs : List α} (k : Nat) (s : Sat w0 G w) (hk : G[k]? = some (row nilH e (rowV q m) xs)) : Sat w0 (G.set k (osl e (rowV q m) xs)) w :=
  s.weaken k hk _ fun p hp => by
    rcases hp with ⟨h1, rfl⟩ | ⟨g, cap, cs, sp, h1, h2, h3, h4, h5, h6⟩
    · exact ⟨none, 0, h1, by simp, by simp, .inl rfl⟩
    · refine ⟨_, cap, h1, h3, h4, .inr ⟨g, 0, _, cs, rfl, h2, ?_, h6.any, fun j v hj => ?_⟩⟩
      · rw [List.size_toArray, h5, Nat.zero_add]; exact Nat.mul_le_mul_right _ h3
      · rw [Nat.zero_add, List.getElem?_toArray, List.getElem?_append_left (List.getElem?_eq_some_iff.1 hj).1]; exact hj
theorem Sat.oslDrop [Flat α] {sz : Nat} {p : Option Addr} {len cap : Nat} {e : TypeId} {xs : List α} (k i : Nat) (s : Sat w0 G w) (hk : G[k]? = some (osl e (.slice p len cap) xs)) (hi : i ≤ xs.length) (hsz : sz = Enc.sz α) : Sat w0 (G.set k (osl e (.slice (cutP p cap i sz) (len - i) (cap - i)) (xs.drop i))) w :=
  s.weaken k hk _ fun h hp => by
    subst hsz
    obtain ⟨q, cq, hv, h1, h2, h3⟩ := hp
    simp only [Value.slice.injEq] at hv
    obtain ⟨rfl, rfl, rfl⟩ := hv
    refine ⟨cutP p cap i (Enc.sz α), cap - i, by rw [List.length_drop], by rw [List.length_drop]; omega, by omega, ?_⟩
    rcases h3 with rfl | ⟨b, o, c, cs, rfl, h5, h6, h7, h8⟩
    · exact .inl (by simp)
    · by_cases hlt : i < xs.length
      · refine .inr ⟨b, o + i * Enc.sz α, c, cs.drop (i * Enc.sz α), cutP_lt (by omega), h5, ?_, h7.drop i, fun j v hj => ?_⟩
        · rw [List.length_drop]
          have : i * Enc.sz α + (xs.length - i) * Enc.sz α = xs.length * Enc.sz α := by rw [← Nat.add_mul]; congr 1; omega
          omega
        · rw [List.getElem?_drop] at hj
          rw [Nat.add_assoc]; exact h8 _ _ hj
      · exact .inl (List.drop_eq_nil_of_le (by omega))
end
structure Pr3 where
  a : Int
  b : Int
  c : Int
  deriving Inhabited, DecidableEq
instance : Enc Pr3 where
  sz := 3
  R _ x cs := cs = [.int .i64 x.a, .int .i64 x.b, .int .i64 x.c]
  len := fun h => by rw [h]; rfl
  one := fun h u hu => by rw [h] at hu; simp only [List.mem_cons, List.not_mem_nil, or_false] at hu; rcases hu with rfl | rfl | rfl <;> rfl
  mono := fun _ h => h
instance : Flat Pr3 := ⟨fun h => h⟩
section
variable {P : Program} {n : Nat} {fr : Fr} {dst : Option Tmp} {ty : TypeId} {pos : String} {aft : Array Edge} {g : Option (Nat × Bool)}
theorem Pu.convUH {x : Operand} {s d : TypeId} {k : IntKind} {a : Int} (hs : (P.underlying s).isSome = true) (hd : P.underlying d = some (.int .u64)) (hx : ev fr x = some (.int k a)) :
    Pu P n ⟨dst, .convert s d x, ty, pos, aft, g⟩ fr (.int .u64 ((UInt64.ofNat (a % 18446744073709551616).toNat).toNat : Int)) := by
  have h := Pu.convUW (P := P) (n := n) (dst := dst) (ty := ty) (pos := pos) (aft := aft) (g := g) hs hd hx
  have e : ((UInt64.ofNat (a % 18446744073709551616).toNat).toNat : Int) = a % 18446744073709551616 := by
    rw [UInt64.toNat_ofNat']
    have h1 : 0 ≤ a % 18446744073709551616 := Int.emod_nonneg _ (by decide)
    have h2 : a % 18446744073709551616 < 18446744073709551616 := Int.emod_lt_of_pos _ (by decide)
    omega
  rw [e]; exact h
end
end Go.Vg
set_option linter.unusedSimpArgs false
set_option linter.unusedVariables false
namespace Go.Vg
open Go.RowKit (Below)
open Enc (R)
structure RawN (n : Nat) where
  c : List Value
  hl : c.length = n
  h1 : ∀ u ∈ c, u.oneCell' = true
instance {n : Nat} : Inhabited (RawN n) := ⟨⟨List.replicate n (.bool false), by simp, fun u hu => by rw [List.eq_of_mem_replicate hu]; rfl⟩⟩
instance {n : Nat} : Enc (RawN n) where
  sz := n
  R _ x cs := cs = x.c
  len := fun {h x cs} e => by rw [e]; exact x.hl
  one := fun {h x cs} e => by rw [e]; exact x.h1
  mono := fun _ h => h
instance {n : Nat} : Flat (RawN n) := ⟨fun h => h⟩
section
variable {α : Type} [Enc α] [Deep α] {n : Nat}
/-- What elements own, the cells known. -/
def DN : Hp → List (α × RawN n) → Prop
  | _, [] => True
  | h, z :: zs => ∃ p q, Deep.D p z.1 z.2.c ∧ DN q zs ∧ (∀ b, p b = none ∨ q b = none) ∧ Hp.le p h ∧ Hp.le q h
theorem DN.mono {h h' : Hp} (hl : h.le h') : ∀ {zs : List (α × RawN n)}, DN h zs → DN h' zs
  | [], _ => trivial
  | _ :: _, ⟨p, q, a, b, d, l1, l2⟩ => ⟨p, q, a, b, d, Hp.le_trans l1 hl, Hp.le_trans l2 hl⟩
theorem DN.ofDRF (hsz : Enc.sz α = n) {h : Hp} : ∀ {xs : List α} {cs : List Value}, DRF h xs cs → ∃ zs : List (α × RawN n), zs.map (·.1) = xs ∧ cs = (zs.map (·.2)).flatMap RawN.c ∧ DN h zs
  | [], cs, e => ⟨[], rfl, e, trivial⟩
  | x :: xs, cs, ⟨c, r, p, q, e, a, b, d, l1, l2⟩ => by
    obtain ⟨zs, h1, h2, h3⟩ := DN.ofDRF hsz b
    have hc := Deep.toR a
    exact ⟨(x, ⟨c, by rw [Enc.len hc, hsz], Enc.one hc⟩) :: zs, by simp [h1], by rw [e, h2]; rfl, p, q, a, h3, d, l1, l2⟩
variable {w0 w : World} {G : List Ch}
end
theorem RawN.get {n : Nat} {x : RawN n} {h : Hp} {c : List Value} (hr : R h x c) : c = x.c := hr
end Go.Vg
set_option linter.unusedSimpArgs false
set_option linter.unusedVariables false
namespace Go.Vg
open Enc (R)
/-- Numbers that run over. -/
def w64 (x : Int) : Int := (x + 9223372036854775808) % 18446744073709551616 - 9223372036854775808
section
variable {P : Program} {n : Nat} {fr : Fr} {dst : Option Tmp} {ty : TypeId} {pos : String} {aft : Array Edge} {g : Option (Nat × Bool)}
theorem Pu.subW {xt yt : TypeId} {x y : Operand} {a b : Int} (hx : ev fr x = some (.int .i64 a)) (hy : ev fr y = some (.int .i64 b)) :
    Pu P n ⟨dst, .binOp .sub xt x y yt, ty, pos, aft, g⟩ fr (.int .i64 (w64 (a - b))) := Pu.bin hx hy (by rw [binI, IntKind.wrap_i64]; rfl)
end
/-- Three numbers that came in. -/
def Pr3.Wf (x : Pr3) : Prop := I64 x.a ∧ I64 x.b ∧ I64 x.c
end Go.Vg
set_option linter.unusedSimpArgs false
set_option linter.unusedVariables false
namespace Go.Vg
open Enc (R)
theorem all_raw (x : Raw3) : ([x.a, x.b, x.c].all fun u => u.oneCell') = true := by
  have := x.ok
  simpa [Bool.and_eq_true] using this
/-- A function value that reckons p, in whatever world the frame F stands in. -/
def FnF (P : Program) (w0 : World) (F : Ch) (v : Value) {α β : Type} (enc : α → List Value) (dec : β → Value) (p : α → Option β) : Prop :=
  ∃ (f : FuncId) (cs : List Value), v = .func (.func f) #[] cs.toArray ∧ Ent P f ∧ ∀ x r w', Sat w0 [F] w' → p x = some r → Calls P f (enc x ++ cs).toArray w' fun e w'' => e = .returned (dec r) ∧ Ext w' w''
/-- The same of what holds slices. -/
def FnRF (P : Program) (w0 : World) (F : Ch) (v : Value) {α β : Type} (Rel : α → List Value → Prop) (dec : β → Value) (p : α → Option β) : Prop :=
  ∃ (f : FuncId) (cs : List Value), v = .func (.func f) #[] cs.toArray ∧ Ent P f ∧ ∀ x c r w', Rel x c → Sat w0 [F] w' → p x = some r → Calls P f (c ++ cs).toArray w' fun e w'' => e = .returned (dec r) ∧ Ext w' w''
section
variable {P : Program} {n : Nat} {fr : Fr} {dst : Option Tmp} {ty : TypeId} {pos : String} {aft : Array Edge} {g : Option (Nat × Bool)} {S : As} {w0 w : World} {G : List Ch} {F : Ch}
theorem FnF.toQ {v : Value} {α β : Type} {enc : α → List Value} {dec : β → Value} {p : α → Option β} (h : FnF P w0 F v enc dec p) (s : Sat w0 [F] w) : FnQ P w v enc dec p := by
  obtain ⟨f, cs, h1, h2, h3⟩ := h
  exact ⟨f, cs, h1, h2, fun x r w' e hp => h3 x r w' (s.grow e) hp⟩
theorem Qt.callF {xo : Operand} {xs : List Operand} {ts : Array TypeId} {v : Value} {α β : Type} {enc : α → List Value} {dec : β → Value} {p : α → Option β} (hv : ev fr xo = some v) (hf : FnF P w0 F v enc dec p) (hs : ∀ w, S w → Sat w0 [F] w) {x : α} {r : β} (hr : p x = some r) (hx : evs fr xs = some (enc x)) :
    Qt P n ⟨dst, .call { callee := .value xo, args := xs.toArray, argTypes := ts }, ty, pos, aft, g⟩ fr S (dec r) := fun a w k s => by
  obtain ⟨f, cs, rfl, he, hc⟩ := hf
  rw [run_enterV he hv hx k]
  have := hc x r w (hs w s) hr
  rw [show (enc x).toArray ++ cs.toArray = (enc x ++ cs).toArray by simp]
  exact ⟨Ext.refl w, this⟩
end
end Go.Vg
set_option linter.unusedSimpArgs false
set_option linter.unusedVariables false
namespace Go.Vg
open Go.RowKit (Below)
open Enc (R)
section
variable {w0 w : World} {G : List Ch} {α : Type} [Enc α]
/-- Elements that are read in B. -/
def FA (B : Hp) : Hp → List α → List Value → Prop := fun _ xs cs => RF B xs cs
instance {B : Hp} : PhM w0 (FA (α := α) B) := ⟨fun _ _ d => d⟩
theorem Sat.nilRowA {B : Hp} (e : TypeId) (h : Sat w0 G w) : Sat w0 (G ++ [rowG (FA B) e (rowV (none, 0) 0) ([] : List α)]) w := h.addEmpty _ (fun p => .inl ⟨rfl, rfl, rfl⟩)
end
section
variable {P : Program} {n : Nat} {fr : Fr} {dst : Option Tmp} {ty : TypeId} {pos : String} {aft : Array Edge} {g : Option (Nat × Bool)} {S : As} {w0 : World} {G : List Ch}
end
end Go.Vg
set_option linter.unusedSimpArgs false
set_option linter.unusedVariables false
namespace Go.Vg
open Go.RowKit (Below)
open Enc (R)
/-- A list behind a slice: the array in H, what its elements hold in A. -/
def R2 {α : Type} [Enc α] (A H : Hp) (xs : List α) (v : Value) : Prop := ∃ p cap, v = .slice p xs.length cap ∧ xs.length ≤ cap ∧ cap ≤ maxLen ∧ (xs = [] ∨ ∃ b o cs, p = some ⟨b, o, none⟩ ∧ RF A xs cs ∧ AtH H b o cs)
section
variable {w0 w : World} {G : List Ch} {α : Type} [Enc α] {A A' H H' : Hp} {xs : List α} {v : Value}
theorem R2.of (h : R A xs [v]) : R2 A A xs v := by
  obtain ⟨p, cap, e, h1, h2, h3⟩ := h
  simp only [List.cons.injEq, and_true] at e
  exact ⟨p, cap, e, h1, h2, h3⟩
theorem R2.mono (hA : A.le A') (hH : H.le H') (h : R2 A H xs v) : R2 A' H' xs v := by
  obtain ⟨p, cap, e, h1, h2, h3⟩ := h
  refine ⟨p, cap, e, h1, h2, h3.imp id ?_⟩
  rintro ⟨b, o, cs, hp, hr, ha⟩
  exact ⟨b, o, cs, hp, hr.mono hA, ha.mono hH⟩
theorem R2.toR {K : Hp} (hA : A.le K) (hH : H.le K) (h : R2 A H xs v) : R K xs [v] := by
  obtain ⟨p, cap, e, h1, h2, h3⟩ := h.mono hA hH
  exact ⟨p, cap, by rw [e], h1, h2, h3⟩
theorem R2.cut {p : Option Addr} {len cap sz : Nat} (hr : R2 A H xs (.slice p len cap)) {l k : Nat} (hlk : l ≤ k) (hk : k ≤ xs.length) (hsz : sz = Enc.sz α) : R2 A H ((xs.take k).drop l) (.slice (cutP p cap l sz) (k - l) (cap - l)) := by
  subst hsz
  obtain ⟨p', cap', e, h1, h2, h3⟩ := hr
  simp only [Value.slice.injEq] at e
  obtain ⟨rfl, rfl, rfl⟩ := e
  refine ⟨cutP p cap l (Enc.sz α), cap - l, by simp [Nat.min_eq_left hk], by simp; omega, by unfold maxLen at *; omega, ?_⟩
  rcases h3 with rfl | ⟨b, o, cs, rfl, hr, ha⟩
  · left; simp
  · by_cases hc : cap = l
    · left
      apply List.eq_nil_of_length_eq_zero
      simp; omega
    · right
      refine ⟨b, o + l * Enc.sz α, (cs.take (k * Enc.sz α)).drop (l * Enc.sz α), by simp [cutP, hc, add_lit], (hr.take k).drop l, ?_⟩
      obtain ⟨c, t, f, hb, hg⟩ := ha
      refine ⟨c, t, f, hb, fun j v hj => ?_⟩
      rw [List.getElem?_drop, List.getElem?_take] at hj
      split at hj
      · rw [Nat.add_assoc]; exact hg _ _ hj
      · cases hj
theorem R2.take {p : Option Addr} {len cap : Nat} (hr : R2 A H xs (.slice p len cap)) {k : Nat} (hk : k ≤ xs.length) : R2 A H (xs.take k) (.slice p k cap) := by
  have := hr.cut (sz := Enc.sz α) (Nat.zero_le k) hk rfl
  rw [List.drop_zero, Nat.sub_zero, Nat.sub_zero] at this
  obtain ⟨p', cap', e, h1, h2, h3⟩ := hr
  simp only [Value.slice.injEq] at e
  obtain ⟨rfl, rfl, rfl⟩ := e
  refine ⟨p, cap, by simp [Nat.min_eq_left hk], by simp; omega, h2, ?_⟩
  rcases h3 with rfl | ⟨b, o, cs, rfl, hr, ha⟩
  · left; simp
  · refine .inr ⟨b, o, cs.take (k * Enc.sz α), rfl, hr.take k, ?_⟩
    obtain ⟨c, t, f, hb, hg⟩ := ha
    refine ⟨c, t, f, hb, fun j v hj => ?_⟩
    rw [List.getElem?_take] at hj
    split at hj
    · exact hg _ _ hj
    · cases hj
theorem R2.drop {p : Option Addr} {len cap sz : Nat} (hr : R2 A H xs (.slice p len cap)) {l : Nat} (hl : l ≤ xs.length) (hsz : sz = Enc.sz α) : R2 A H (xs.drop l) (.slice (cutP p cap l sz) (len - l) (cap - l)) := by
  have h := hr.cut hl (Nat.le_refl _) hsz
  rw [List.take_length] at h
  obtain ⟨p', cap', e, _⟩ := hr
  simp only [Value.slice.injEq] at e
  rw [e.2.1]; exact h
/-- An element. -/
theorem R2.el [Inhabited α] {b o len cap : Nat} (h : R2 A H xs (.slice (some ⟨b, o, none⟩) len cap)) {ji : Int} (hj : 0 ≤ ji ∧ ji < (xs.length : Int)) : ∃ c, R A (gi xs ji) c ∧ AtH H b (o + ji.toNat * Enc.sz α) c := by
  obtain ⟨p', cap', e, h1, h2, h3⟩ := h
  simp only [Value.slice.injEq] at e
  obtain ⟨rfl, rfl, rfl⟩ := e
  rcases h3 with rfl | ⟨b', o', cs, hp, hr, ha⟩
  · simp at hj; omega
  · simp only [Option.some.injEq, Addr.mk.injEq, and_true] at hp
    obtain ⟨rfl, rfl⟩ := hp
    obtain ⟨c, hc, hg⟩ := hr.get (gi_get hj)
    obtain ⟨d, t, f, e1, e2⟩ := ha
    exact ⟨c, hc, d, t, f, e1, fun j v hv => by rw [Nat.add_assoc]; exact e2 _ _ (hg _ _ hv)⟩
theorem fa_R2 {e : TypeId} {p : Hp} (h : rowG (FA A) e v xs p) : R2 A p xs v := by
  rcases h with ⟨rfl, rfl, _⟩ | ⟨g, cap, cs, sp, rfl, hg, h3, h4, h5, h6⟩
  · exact ⟨none, 0, rfl, by simp, by simp, .inl rfl⟩
  · refine ⟨_, cap, rfl, h3, h4, .inr ⟨g, 0, cs, rfl, h6, _, e, _, hg, fun j u hj => ?_⟩⟩
    rw [Nat.zero_add, List.getElem?_toArray, List.getElem?_append_left (List.getElem?_eq_some_iff.1 hj).1]; exact hj
/-- What reads so, in every world. -/
def Rd2 (S : As) (A : Hp) (xs : List α) (v : Value) : Prop := ∀ w, S w → R2 A (hpOf w) xs v
theorem Rd2.ofFA (k : Nat) {e : TypeId} (hk : G[k]? = some (rowG (FA A) e v xs)) : Rd2 (Sat w0 G) A xs v := fun w s => by
  obtain ⟨p, hp, hl, _⟩ := s.get k hk
  exact (fa_R2 hp).mono (Hp.le_refl _) hl
theorem Rd2.ofFz {hh : Hp} (k : Nat) (hk : G[k]? = some (fz hh)) (h : R2 A hh xs v) : Rd2 (Sat w0 G) A xs v := fun w s => h.mono (Hp.le_refl _) (Held.fz k hk w s)
theorem Rd2.arena (hA : Held (Sat w0 G) A) (h : R A xs [v]) : Rd2 (Sat w0 G) A xs v := fun w s => (R2.of h).mono (Hp.le_refl _) (hA w s)
theorem Rd2.toRd (hA : Held (Sat w0 G) A) (h : Rd2 (Sat w0 G) A xs v) : Rd (Sat w0 G) xs [v] := fun w s => (h w s).toR (hA w s) (Hp.le_refl _)
/-- What stands in chunk j goes to what stands still. -/
theorem Sat.absorb {C : Ch} (k j : Nat) (s : Sat w0 G w) (hk : G[k]? = some (fz A)) (hj : G[j]? = some C) (hne : k ≠ j) : ∃ h, (A.le h ∧ ∃ p, C p ∧ p.le h) ∧ Sat w0 ((G.set k (fz h)).set j dead) w := by
  have s1 := s.merge2 k j hk hj hne (fun r => A.le r ∧ ∃ p, C p ∧ p.le r) fun p q r a b d l1 l2 => by
    have : p = A := a
    subst this
    exact ⟨l1, q, b, l2⟩
  have hkl := (List.getElem?_eq_some_iff.1 hk).1
  have hk1 : ((G.set k (fun r => A.le r ∧ ∃ p, C p ∧ p.le r)).set j dead)[k]? = some (fun r => A.le r ∧ ∃ p, C p ∧ p.le r) := by rw [List.getElem?_set_ne hne.symm, List.getElem?_set_self hkl]
  obtain ⟨h, hh, s2⟩ := s1.freeze k hk1
  rw [List.set_comm _ _ hne.symm, List.set_set] at s2
  exact ⟨h, hh, s2⟩
theorem Sat.faUp {e : TypeId} (k : Nat) (hle : A.le A') (s : Sat w0 G w) (hk : G[k]? = some (rowG (FA A) e v xs)) : Sat w0 (G.set k (rowG (FA A') e v xs)) w :=
  s.weaken k hk _ fun p hp => by
    rcases hp with ⟨a, b, _⟩ | ⟨g, cap, cs, sp, h1, h2, h3, h4, h5, h6⟩
    · exact .inl ⟨a, b, by subst b; rfl⟩
    · exact .inr ⟨g, cap, cs, sp, h1, h2, h3, h4, h5, RF.mono hle h6⟩
/-- Nothing yet. -/
theorem Sat.newArena (s : Sat w0 G w) : ∃ h : Hp, True ∧ Sat w0 (G ++ [fz h]) w := by
  obtain ⟨h, _, s1⟩ := Sat.freeze (C := dead) G.length (by simp) (s.addEmpty dead fun _ => trivial)
  exact ⟨h, trivial, by simpa using s1⟩
end
section
variable {P : Program} {n : Nat} {fr : Fr} {dst : Option Tmp} {ty : TypeId} {pos : String} {aft : Array Edge} {g : Option (Nat × Bool)} {S : As} {w0 : World} {G : List Ch}
theorem Sd.appGB {α : Type} [Enc α] {Φ : Hp → List α → List Value → Prop} [PhM w0 Φ] (k : Nat) {C : Ch} (hk : G[k]? = some C) {x y : Operand} {t e : TypeId} {by' : Nat} {z v : Value} {xs ys : List α} {q : Addr} {m c : Nat}
    (ht : slTy P t = some (e, Enc.sz α, by')) (hz : zeroOf P e = some z) (hzs : z.cells.size = Enc.sz α) (hx : ev fr x = some v) (hy : ev fr y = some (.slice (some q) m c))
    (hm : ys.length = m) (hlt : xs.length + ys.length < 1099511627776) (hbytes : (xs.length + m) * by' ≤ 140737488355328)
    (hC : ∀ w, Sat w0 G w → ∃ news, (∀ p, C p → p.le (hpOf w) → (∀ b o, p b = some o → w0.heap.size ≤ b) → rowAndG Φ e v xs ys news p) ∧ (∀ j u, news[j]? = some u → w.cell? (q.add j) = some u) ∧ news.length = ys.length * Enc.sz α ∧ ∀ u ∈ news, u.oneCell' = true) :
    Sd P n ⟨dst, .call { callee := .builtin .append, args := #[x, y], argTypes := #[t, t] }, ty, pos, aft, g⟩ fr (Sat w0 G) (fun q => rowV q (xs ++ ys).length) (fun q => Sat w0 (G.set k (rowG Φ e (rowV q (xs ++ ys).length) (xs ++ ys)))) := fun a w kn s => by
  have h63 : xs.length + m ≤ maxLen := by unfold maxLen; omega
  obtain ⟨news, hC, h1, h2, h3⟩ := hC w s
  -- the chunk in this world
  have s' : Sat w0 (G.set k (fun p => C p ∧ p.le (hpOf w))) w := by
    obtain ⟨e1, own, h2⟩ := s
    refine ⟨e1, own, fun j E hj => ?_⟩
    by_cases hjk : k = j
    · subst hjk
      rw [List.getElem?_set_self (List.getElem?_eq_some_iff.1 hk).1] at hj
      have := (Option.some.inj hj).symm; subst this
      obtain ⟨p, hp, hb⟩ := h2 k C hk
      exact ⟨p, ⟨hp, fun b o e => (hb b o e).2.2⟩, hb⟩
    · rw [List.getElem?_set_ne hjk] at hj
      exact h2 j E hj
  have hkl : k < G.length := (List.getElem?_eq_some_iff.1 hk).1
  obtain ⟨v', w', hr, hs⟩ := s'.appendG (ty := ty) (k := k) (List.getElem?_set_self hkl) ht hz hzs (fun p hp hb => hC p hp.1 hp.2 hb) hm h1 h2 h3 hbytes h63 (c := c)
  rw [run_builtin_append kn hx hy hr]
  rw [List.set_set] at hs
  obtain ⟨p, hp, _⟩ := hs.get k (List.getElem?_set_self hkl)
  obtain ⟨q', hq⟩ := rowG_shape hp
  exact ⟨q', hq, by show Sat w0 (G.set k (rowG Φ e (rowV q' (xs ++ ys).length) (xs ++ ys))) w'; rw [← hq]; exact hs⟩
theorem Sd.appAB {α : Type} [Enc α] {H : Hp} (k k1 : Nat) {x y : Operand} {t e e' : TypeId} {by' : Nat} {z v : Value} {xs : List α} (ys : List α) {news : List Value} {b m c : Nat}
    (hk : G[k]? = some (rowG (FA H) e v xs)) (hk1 : G[k1]? = some (blk b news e')) (hL : RF H ys news)
    (ht : slTy P t = some (e, Enc.sz α, by')) (hz : zeroOf P e = some z) (hzs : z.cells.size = Enc.sz α) (hx : ev fr x = some v) (hy : ev fr y = some (.slice (some ⟨b, 0, none⟩) m c))
    (hm : ys.length = m) (hlt : xs.length + ys.length < 1099511627776) (hbytes : (xs.length + m) * by' ≤ 140737488355328) :
    Sd P n ⟨dst, .call { callee := .builtin .append, args := #[x, y], argTypes := #[t, t] }, ty, pos, aft, g⟩ fr (Sat w0 G) (fun q => rowV q (xs ++ ys).length) (fun q => Sat w0 (G.set k (rowG (FA H) e (rowV q (xs ++ ys).length) (xs ++ ys)))) :=
  Sd.appGB (Φ := FA H) k hk ht hz hzs hx hy hm hlt hbytes (fun w' s' => ⟨news, fun p hp _ hb => by
      rcases hp with ⟨rfl, rfl, h⟩ | ⟨g, cap, cs, sp, hv, hg, h3, h4, h5, h6⟩
      · exact .inl ⟨rfl, rfl, hL⟩
      · exact .inr ⟨g, cap, cs, sp, hv, hg, h3, h4, h5, RF.length h6, RF.append h6 hL⟩, fun j u hj => by
      rw [add_lit]; simp [World.cell?, (s'.getBlk hk1).1, hj], hL.length, hL.one⟩)
theorem Sd.appFA {α : Type} [Enc α] {A : Hp} (k : Nat) {x y : Operand} {t e : TypeId} {by' : Nat} {z v vy : Value} {xs : List α} (ys : List α)
    (hk : G[k]? = some (rowG (FA A) e v xs)) (hR : Rd2 (Sat w0 G) A ys vy)
    (ht : slTy P t = some (e, Enc.sz α, by')) (hz : zeroOf P e = some z) (hzs : z.cells.size = Enc.sz α) (hx : ev fr x = some v) (hy : ev fr y = some vy)
    (hlt : xs.length + ys.length < 1099511627776) (hbytes : (xs.length + ys.length) * by' ≤ 140737488355328) :
    Sd P n ⟨dst, .call { callee := .builtin .append, args := #[x, y], argTypes := #[t, t] }, ty, pos, aft, g⟩ fr (Sat w0 G) (fun q => rowV q (xs ++ ys).length) (fun q => Sat w0 (G.set k (rowG (FA A) e (rowV q (xs ++ ys).length) (xs ++ ys)))) := fun a w kn s => by
  obtain ⟨p', cap', e', s1, s2, s3⟩ := hR w s
  subst e'
  cases p' with
  | none =>
    have hnil : ys = [] := by
      rcases s3 with h | ⟨b, o, cs, hq, _⟩
      · exact h
      · cases hq
    subst hnil
    obtain ⟨p, hp, _⟩ := s.get k hk
    obtain ⟨q', hq⟩ := rowG_shape hp
    subst hq
    obtain ⟨hu, i, hi, _, _⟩ := slTy_spec ht
    have hf := rowG_fits hp
    have hr : (Builtin.append_ #[t, t] ty #[rowV q' xs.length, .slice none ([] : List α).length cap']).run P w = .ok (rowV q' xs.length) w := by
      obtain ⟨o, cc⟩ := q'
      have h1 : xs.length ≤ cc := hf.2.1
      cases o <;> simp [rowV, Builtin.append_, run_underlying hu, sizeOf, typeInfo, hi, Builtin.lenOf, Builtin.firstCells, storeCells, h1]
    rw [run_builtin_append kn hx hy hr]
    refine ⟨q', by simp, ?_⟩
    simp only [List.append_nil]
    have e1 : (G.set k (rowG (FA A) e (rowV q' xs.length) xs)) = G := by
      obtain ⟨hl, he⟩ := List.getElem?_eq_some_iff.1 hk
      exact he ▸ List.set_getElem_self hl
    rw [e1]; exact s
  | some q =>
    exact Sd.appGB (Φ := FA A) k hk ht hz hzs hx hy rfl hlt hbytes (fun w' s' => by
      obtain ⟨p2, c2, e2, t1, t2, t3⟩ := hR w' s'
      simp only [Value.slice.injEq] at e2
      obtain ⟨rfl, _, rfl⟩ := e2
      rcases t3 with rfl | ⟨b, o, cs, hq, hr, ha⟩
      · refine ⟨[], fun p hp _ _ => ?_, fun j u hj => by simp at hj, by simp, fun u hu => by cases hu⟩
        rcases hp with ⟨rfl, rfl, h⟩ | ⟨g, cap, cs, sp, hv, hg, h3, h4, h5, h6⟩
        · exact .inl ⟨rfl, rfl, rfl⟩
        · exact .inr ⟨g, cap, cs, sp, hv, hg, h3, h4, h5, RF.length h6, by simpa using h6⟩
      · cases hq
        refine ⟨cs, fun p hp _ _ => ?_, fun j u hj => by rw [add_lit]; exact ha.cell hj, hr.length, hr.one⟩
        rcases hp with ⟨rfl, rfl, h⟩ | ⟨g, cap, cs', sp, hv, hg, h3, h4, h5, h6⟩
        · exact .inl ⟨rfl, rfl, hr⟩
        · exact .inr ⟨g, cap, cs', sp, hv, hg, h3, h4, h5, RF.length h6, RF.append h6 hr⟩) a w kn s
theorem Sd.stFA {α : Type} [Enc α] (k : Nat) {t e : TypeId} {A : Hp} {x y : Operand} {xs : List α} {b off cap i j sz len : Nat} {gg : Bool} {x0 x1 : α} {v : Value} {us : List Value} (hk : G[k]? = some (rowG (FA A) e (.slice (some ⟨b, 0, none⟩) len cap) xs)) (hx0 : xs[i]? = some x0) (ht : tySz P t = some (sz, gg))
    (hx : ev fr x = some (.pointer (some ⟨b, off, none⟩))) (hy : ev fr y = some v) (ho : off = 0 + i * Enc.sz α + j) (hv : v.cells.toList = us) (hl : us.length = sz) (hj : j + sz ≤ Enc.sz α)
    (h1 : us.all (·.oneCell') = true) (hn : ∀ c, R A x0 c → R A x1 (c.take j ++ us ++ c.drop (j + sz))) :
    Sd P n ⟨none, .store t x y, ty, pos, aft, g⟩ fr (Sat w0 G) (fun _ : Unit => undef) (fun _ => Sat w0 (G.set k (rowG (FA A) e (.slice (some ⟨b, 0, none⟩) len cap) (xs.set i x1)))) := fun a w kn s => by
  have hil : i < xs.length := (List.getElem?_eq_some_iff.1 hx0).1
  obtain ⟨p0, hp0, hl0, hb0⟩ := s.get k hk
  rcases hp0 with ⟨hv', _, _⟩ | ⟨g', cap', cs, sp, hv', hgp, hlc, hcm, hlen, hr⟩
  · cases hv'
  simp only [Value.slice.injEq, Option.some.injEq, Addr.mk.injEq, and_true, true_and] at hv'
  obtain ⟨rfl, rfl, rfl⟩ := hv'
  have hcl := hr.length
  have hib : i * Enc.sz α + Enc.sz α ≤ xs.length * Enc.sz α := by
    have := Nat.mul_le_mul_right (Enc.sz α) (show i + 1 ≤ xs.length by omega)
    rw [Nat.add_mul] at this; omega
  have hrun := run_storeVar1 (P := P) (o := off) ht (hl0 _ _ hgp) hv hl (by simp only [List.length_append]; omega) (fun u hu => List.all_eq_true.1 h1 u hu)
  simp [execOp, kn.ev hx, kn.ev hy, Instr.storeAt, Instr.sureAddr, hrun, solidRes]
  refine s.turn k hk _ rfl rfl rfl (by simp) fun p hp hlp hb => ?_
  rcases hp with ⟨hv'', _, _⟩ | ⟨g', cap', cs', sp', hv'', hgp', hlc', hcm', hlen', hr'⟩
  · cases hv''
  simp only [Value.slice.injEq, Option.some.injEq, Addr.mk.injEq, and_true, true_and] at hv''
  obtain ⟨rfl, rfl, rfl⟩ := hv''
  have he : cs' = cs ∧ sp' = sp := by
    have h1 := hlp _ _ hgp'
    have h2 : w.heap[b]? = some (.cells (cs ++ sp).toArray e (0, 0)) := hl0 _ _ hgp
    have h3 : w.heap[b]? = some (.cells (cs' ++ sp').toArray e (0, 0)) := h1
    rw [h2] at h3
    have h4 : cs ++ sp = cs' ++ sp' := by simpa using h3
    have h5 := congrArg (List.take cs.length) h4
    rw [List.take_left, hcl, ← hr'.length, List.take_left] at h5
    have h6 := congrArg (List.drop cs.length) h4
    rw [List.drop_left, hcl, ← hr'.length, List.drop_left] at h6
    exact ⟨h5.symm, h6.symm⟩
  obtain ⟨rfl, rfl⟩ := he
  obtain ⟨c, hc, hg⟩ := hr'.get hx0
  have hcl2 := Enc.len hc
  have hset := hr'.set hil (hn c hc)
  -- the cells of the element
  have hce : c = (cs'.drop (i * Enc.sz α)).take (Enc.sz α) := by
    apply List.ext_getElem?
    intro j
    rw [List.getElem?_take, List.getElem?_drop]
    by_cases hj : j < Enc.sz α
    · rw [if_pos hj]
      cases hcj : c[j]? with
      | none => rw [List.getElem?_eq_none_iff] at hcj; omega
      | some v => rw [hg j v hcj]
    · rw [if_neg hj, List.getElem?_eq_none]; omega
  have harr : (cs' ++ sp').take off ++ us ++ (cs' ++ sp').drop (off + sz) = (cs'.take (i * Enc.sz α) ++ (c.take j ++ us ++ c.drop (j + sz)) ++ cs'.drop (i * Enc.sz α + Enc.sz α)) ++ sp' := by
    have e1 : cs'.take (i * Enc.sz α) ++ c.take j = cs'.take off := by
      rw [hce, List.take_take, Nat.min_eq_left (by omega), ho, Nat.zero_add, List.take_add]
    have e2 : c.drop (j + sz) ++ cs'.drop (i * Enc.sz α + Enc.sz α) = cs'.drop (off + sz) := by
      rw [hce, List.drop_take, List.drop_drop, ho, Nat.zero_add]
      have : cs'.drop (i * Enc.sz α + Enc.sz α) = (cs'.drop (i * Enc.sz α + (j + sz))).drop (Enc.sz α - (j + sz)) := by rw [List.drop_drop]; congr 1; omega
      rw [this, List.take_append_drop, Nat.add_assoc]
    rw [List.take_append_of_le_length (by omega), List.drop_append_of_le_length (by omega), ← e1, ← e2]
    simp [List.append_assoc]
  have harr' : ((cs' ++ sp').take off ++ (us ++ (cs' ++ sp').drop (off + sz))) = (cs'.take (i * Enc.sz α) ++ (c.take j ++ us ++ c.drop (j + sz)) ++ cs'.drop (i * Enc.sz α + Enc.sz α)) ++ sp' := by
    rw [← harr]; simp [List.append_assoc]
  refine ⟨fun d hd hdn => setRow_other w b d _ (fun e' => by rw [e', hgp'] at hdn; cases hdn), fun d => if d = b then some (.cells ((cs' ++ sp').take off ++ (us ++ (cs' ++ sp').drop (off + sz))).toArray e (0, 0)) else p d, .inr ⟨b, cap, cs'.take (i * Enc.sz α) ++ (c.take j ++ us ++ c.drop (j + sz)) ++ cs'.drop (i * Enc.sz α + Enc.sz α), sp', by simp, ?_, by simpa using hlc, hcm, ?_, ?_⟩, fun d o' hdo => ?_⟩
  · simp only [if_pos]; rw [harr']
  · have := congrArg List.length harr'
    rw [← this]
    simp only [List.length_append, List.length_take, List.length_drop] at hlen ⊢
    omega
  · exact hset
  · dsimp only at hdo
    split at hdo
    · rename_i hdb; subst hdb; cases hdo
      exact ⟨.inl (by rw [hgp']; simp), by
        have := setRow_heap w d (cs' ++ sp').toArray ((cs' ++ sp').take off ++ (us ++ (cs' ++ sp').drop (off + sz))).toArray e (0, 0) (hlp _ _ hgp')
        simpa using this⟩
    · rename_i hdb
      exact ⟨.inl (by rw [hdo]; simp), by rw [setRow_other w b d _ hdb]; exact hlp d o' hdo⟩

/-- A whole element. -/
theorem Sd.stFA0 {α : Type} [Enc α] [Inhabited α] (k : Nat) {t e : TypeId} {A : Hp} {x y : Operand} {xs : List α} {b cap s sz len : Nat} {ji : Int} {gg : Bool} (x1 : α) {v : Value} {us : List Value} (hk : G[k]? = some (rowG (FA A) e (.slice (some ⟨b, 0, none⟩) len cap) xs)) (ht : tySz P t = some (s, gg))
    (hx : ev fr x = some (.pointer (some ⟨b, 0 + ji.toNat * sz, none⟩))) (hy : ev fr y = some v) (hsz : sz = Enc.sz α) (hj : 0 ≤ ji ∧ ji < xs.length) (hv : v.cells.toList = us) (hl : us.length = s) (hs : s = Enc.sz α)
    (h1 : us.all (·.oneCell') = true) (hu : R A x1 us) :
    Sd P n ⟨none, .store t x y, ty, pos, aft, g⟩ fr (Sat w0 G) (fun _ : Unit => undef) (fun _ => Sat w0 (G.set k (rowG (FA A) e (.slice (some ⟨b, 0, none⟩) len cap) (si xs ji x1)))) :=
  Sd.stFA (i := ji.toNat) (j := 0) k hk (gi_get hj) ht hx hy (by rw [hsz, Nat.add_zero]) hv hl (by omega) h1 (fun c hc => by
    have h2 := Enc.len hc
    rw [List.take_zero, List.nil_append, List.drop_eq_nil_of_le (by omega), List.append_nil]; exact hu)
/-- Ahead of a step what stands in chunk j goes to what stands still. -/
theorem Sd.absorb {o : Oper} {κ : Type} {C : Ch} {A : Hp} {G1 : List Ch} {F : Hp → List Ch} {val : Hp → κ → Value} {S' : Hp → κ → As} (pre : ∀ w, Sat w0 G w → Sat w0 G1 w) (kA j : Nat) (hk : G1[kA]? = some (fz A)) (hj : G1[j]? = some C) (hne : kA ≠ j)
    (up : ∀ h, A.le h → ∀ w, Sat w0 ((G1.set kA (fz h)).set j dead) w → Sat w0 (F h) w) (h : ∀ i : Hp, (A.le i ∧ ∃ p, C p ∧ p.le i) → Sd P n o fr (Sat w0 (F i)) (val i) (S' i)) :
    Sd P n o fr (Sat w0 G) (fun z : Hp × κ => val z.1 z.2) (fun z => S' z.1 z.2) := fun a w k s => by
  obtain ⟨i, hi, s0⟩ := Sat.absorb kA j (pre w s) hk hj hne
  have := h i hi a w k (up i hi.1 w s0)
  revert this
  generalize (execOp a.eval o).run P w = r
  intro this
  cases r with
  | ok x w' =>
    cases x <;> simp only [solidRes] at this ⊢
    case value u => obtain ⟨x, h1, h2⟩ := this; exact ⟨(i, x), h1, h2⟩
    case skip => obtain ⟨x, h1, h2⟩ := this; exact ⟨(i, x), h1, h2⟩
    case enter f args => exact this.mono fun e w'' ⟨x, h1, h2⟩ => ⟨(i, x), h1, h2⟩
  | halt x w' => exact this.elim
theorem Sat.rowFA0 {α : Type} [Enc α] {A : Hp} {w : World} {e : TypeId} {v : Value} (k : Nat) (s : Sat w0 G w) (hk : G[k]? = some (row nilH e v ([] : List α))) : Sat w0 (G.set k (rowG (FA A) e v ([] : List α))) w :=
  s.weaken k hk _ fun p hp => by
    rcases hp with ⟨a, _⟩ | ⟨g, cap, cs, sp, h1, h2, h3, h4, h5, h6⟩
    · exact .inl ⟨a, rfl, rfl⟩
    · exact .inr ⟨g, cap, cs, sp, h1, h2, h3, h4, h5, h6⟩
end
section
variable {S : As} {α : Type} [Enc α] {A : Hp} {xs : List α}
theorem Rd2.take {p : Option Addr} {len cap : Nat} (h : Rd2 S A xs (.slice p len cap)) {k : Nat} (hk : k ≤ xs.length) : Rd2 S A (xs.take k) (.slice p k cap) := fun w s => (h w s).take hk
theorem Rd2.drop {p : Option Addr} {len cap sz : Nat} (h : Rd2 S A xs (.slice p len cap)) {l : Nat} (hl : l ≤ xs.length) (hsz : sz = Enc.sz α) : Rd2 S A (xs.drop l) (.slice (cutP p cap l sz) (len - l) (cap - l)) := fun w s => (h w s).drop hl hsz
theorem Rd2.cut {p : Option Addr} {len cap sz : Nat} (h : Rd2 S A xs (.slice p len cap)) {l k : Nat} (hlk : l ≤ k) (hk : k ≤ xs.length) (hsz : sz = Enc.sz α) : Rd2 S A ((xs.take k).drop l) (.slice (cutP p cap l sz) (k - l) (cap - l)) := fun w s => (h w s).cut hlk hk hsz
theorem R2.some' {H : Hp} {q : Option Nat × Nat} {m : Nat} (h : R2 A H xs (rowV q m)) (hne : 0 < xs.length) : ∃ g cap, q = (some g, cap) := by
  obtain ⟨p, cap, e, _, _, h3⟩ := h
  obtain ⟨o, c⟩ := q
  cases o with
  | some g => exact ⟨g, c, rfl⟩
  | none =>
    simp only [rowV, Value.slice.injEq] at e
    rcases h3 with rfl | ⟨b, o, cs, hp, _⟩
    · simp at hne
    · rw [hp] at e; simp at e
end
end Go.Vg
