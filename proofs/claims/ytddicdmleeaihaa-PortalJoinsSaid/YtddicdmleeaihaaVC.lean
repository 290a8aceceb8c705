/-
  One lemma for each operation of a walk that only computes. For every program whose tables say what the lemma asks. A library of this claim's own.
-/
import Derived.Test.YtddicdmleeaihaaVB
import Derived.WalkKit
set_option linter.unusedSimpArgs false
set_option linter.unusedVariables false
namespace Go.Vg

/-! ### Tables -/
def isAggD : TypeDesc → Bool
  | .struct _ => true
  | .array _ _ => true
  | _ => false
def tySz (P : Program) (t : TypeId) : Option (Nat × Bool) :=
  match P.info? t, P.underlying t with
  | some i, some d => some (i.size, isAggD d)
  | _, _ => none
def slTy (P : Program) (t : TypeId) : Option (TypeId × Nat × Nat) :=
  match P.underlying t with
  | some (.slice e) => (P.info? e).map fun i => (e, i.size, i.bytes)
  | _ => none
def arTy (P : Program) (t : TypeId) : Option (Nat × TypeId × Nat) :=
  match P.underlying t with
  | some (.array n e) => (P.info? e).map fun i => (n, e, i.size)
  | _ => none
def fdOff (P : Program) (s : TypeId) (f : Nat) : Option Nat :=
  match P.underlying s with
  | some (.struct fs) => match fs[f]? with
    | some d => match P.info? d.type with
      | some i => if i.size = 0 then none else some d.offset
      | none => none
    | none => none
  | _ => none
def zeroOf (P : Program) (t : TypeId) : Option Value := (P.info? t).bind (·.zero)

section
variable {P : Program}
theorem run_sizeOf_of {t : TypeId} {sz : Nat} {g : Bool} (h : tySz P t = some (sz, g)) (w : World) : (sizeOf t).run P w = .ok sz w := by
  unfold tySz at h
  split at h
  · rename_i i d h1 h2; cases h; simp [sizeOf, typeInfo, h1]
  · cases h
theorem run_isAgg_of {t : TypeId} {sz : Nat} {g : Bool} (h : tySz P t = some (sz, g)) (w : World) : (isAgg t).run P w = .ok g w := by
  unfold tySz at h
  split at h
  · rename_i i d h1 h2
    cases h
    cases d <;> simp [isAgg, run_underlying h2, isAggD]
  · cases h
theorem slTy_spec {t e : TypeId} {sz by' : Nat} (h : slTy P t = some (e, sz, by')) : P.underlying t = some (.slice e) ∧ ∃ i, P.info? e = some i ∧ i.size = sz ∧ i.bytes = by' := by
  unfold slTy at h
  split at h
  · rename_i e' h1
    cases hi : P.info? e' with
    | none => simp [hi] at h
    | some i => simp [hi] at h; obtain ⟨rfl, rfl, rfl⟩ := h; exact ⟨h1, i, hi, rfl, rfl⟩
  · cases h
theorem arTy_spec {t e : TypeId} {n sz : Nat} (h : arTy P t = some (n, e, sz)) : P.underlying t = some (.array n e) ∧ ∃ i, P.info? e = some i ∧ i.size = sz := by
  unfold arTy at h
  split at h
  · rename_i n' e' h1
    cases hi : P.info? e' with
    | none => simp [hi] at h
    | some i => simp [hi] at h; obtain ⟨rfl, rfl, rfl⟩ := h; exact ⟨h1, i, hi, rfl⟩
  · cases h
theorem run_sizeOf_info {t : TypeId} {i : TypeInfo} (h : P.info? t = some i) (w : World) : (sizeOf t).run P w = .ok i.size w := by simp [sizeOf, typeInfo, h]
theorem add_lit (b o k : Nat) : (⟨b, o, none⟩ : Addr).add k = ⟨b, o + k, none⟩ := by unfold Addr.add; split <;> simp_all
end

/-! ### What an operation yields -/
/-- In every world the value v, and nothing happens. -/
def Pu (P : Program) (n : Nat) (o : Oper) (fr : Fr) (v : Value) : Prop := ∀ a, Knows n fr a → ∀ w, (execOp a.eval o).run P w = .ok (.value v) w
def quietRes (P : Program) (S : As) (v : Value) : Result Next → Prop
  | .ok (.value u) w' => S w' ∧ u = v
  | .ok .skip w' => S w' ∧ v = undef
  | .ok (.enter f args) w' => S w' ∧ Calls P f args w' (fun e w'' => e = .returned v ∧ S w'')
  | _ => False
/-- In every world of which S is said the value v, and nothing that was there turns. -/
def Qt (P : Program) (n : Nat) (o : Oper) (fr : Fr) (S : As) (v : Value) : Prop := ∀ a w, Knows n fr a → S w → quietRes P (fun w' => Ext w w') v ((execOp a.eval o).run P w)
def ClE (S : As) : Prop := ∀ w w', S w → Ext w w' → S w'
theorem ClE.sat (w0 : World) (G : List Ch) : ClE (Sat w0 G) := fun w w' s e => s.grow e
def solidRes {ι : Type} (P : Program) (val : ι → Value) (S' : ι → As) : Result Next → Prop
  | .ok (.value u) w' => ∃ i, u = val i ∧ S' i w'
  | .ok .skip w' => ∃ i, val i = undef ∧ S' i w'
  | .ok (.enter f args) w' => Calls P f args w' (fun e w'' => ∃ i, e = .returned (val i) ∧ S' i w'')
  | _ => False
/-- In every world of which S is said: for some i the value val i, and S' i is said behind it. -/
def Sd (P : Program) (n : Nat) (o : Oper) (fr : Fr) (S : As) {ι : Type} (val : ι → Value) (S' : ι → As) : Prop := ∀ a w, Knows n fr a → S w → solidRes P val S' ((execOp a.eval o).run P w)

section
variable {P : Program} {n : Nat} {fr : Fr} {S : As} {o : Oper}
theorem Pu.qt {v : Value} (h : Pu P n o fr v) : Qt P n o fr S v := fun a w k s => by rw [h a k w]; exact ⟨Ext.refl w, rfl⟩
theorem Qt.sd {S C : As} {v : Value} (hc : ClE S) (h : ∀ w, S w → C w) (k : Qt P n o fr C v) : Sd P n o fr S (fun _ : Unit => v) (fun _ => S) := fun a w kn s => by
  have := k a w kn (h w s)
  revert this
  generalize (execOp a.eval o).run P w = r
  intro hq
  cases r with
  | ok x w' =>
    cases x <;> simp only [quietRes, solidRes] at hq ⊢
    case value u => exact ⟨(), hq.2, hc _ _ s hq.1⟩
    case skip => exact ⟨(), hq.2, hc _ _ s hq.1⟩
    case enter f args => exact hq.2.mono fun e w'' ⟨he, hs⟩ => ⟨(), he, hc _ _ s hs⟩
  | halt x w' => exact hq.elim

/-! ### The steps of a region in the text's order -/
def dOk (n : Nat) : Option Nat → Bool
  | some d => Nat.blt d n
  | none => true
def putF (d : Option Nat) (v : Value) (fr : Fr) : Fr := match d with
  | some d => (d, v) :: fr
  | none => fr
theorem Knows.putF {a : Act} (h : Knows n fr a) {d : Option Nat} (hd : dOk n d = true) (v : Value) : Knows n (putF d v fr) (a.put d v) := by
  cases d with
  | none => exact h
  | some d => exact h.put hd v

def gval (ops : Array Oper) (fr : Fr) : Option (Nat × Bool) → Option Bool
  | none => some true
  | some (j, b) => match ((ops[j]?).bind (·.dst)).bind (look fr) with
    | some (.bool c) => some (c == b)
    | some _ => some false
    | none => none
theorem wanted_of {ops : Array Oper} {a : Act} (k : Knows n fr a) {c : Bool} (h : gval ops fr o.guard = some c) : Region.wanted o (yielded ops a.tmps) = c := by
  unfold gval at h
  unfold Region.wanted
  cases hg : o.guard with
  | none => simp [hg] at h; simp [h]
  | some jb =>
    obtain ⟨j, b⟩ := jb
    simp only [hg] at h
    unfold yielded
    cases hd : (ops[j]?).bind (·.dst) with
    | none => simp [hd] at h
    | some d =>
      simp only [hd, Option.bind_some] at h ⊢
      cases hl : look fr d with
      | none => simp [hl] at h
      | some u =>
        rw [k.get d u hl]
        rw [hl] at h
        cases u <;> simp at h ⊢ <;> simp [h]

variable {ops : Array Oper} {Q : Po} {rest : List Oper}
theorem RS.nil (h : Cont n (Q .normal) fr S) : RS P n ops Q [] fr S := fun a w k s => wpList_nil (h a w k s)
theorem RS.solid {ι : Type} {val : ι → Value} {S' : ι → As} (h : Sd P n o fr S val S') (hg : gval ops fr o.guard = some true) (hd : dOk n o.dst = true)
    (hr : ∀ i, RS P n ops Q rest (putF o.dst (val i) fr) (S' i)) : RS P n ops Q (o :: rest) fr S := by
  intro a w k s
  unfold wpList
  rw [if_pos (wanted_of k hg)]
  refine .inl ?_
  have := h a w k s
  unfold Oper.wp
  revert this
  generalize (execOp a.eval o).run P w = r
  intro h
  cases r with
  | ok x w' =>
    cases x <;> simp only [solidRes, Oper.upon] at h ⊢
    case value u => obtain ⟨i, rfl, hs⟩ := h; exact hr i _ _ (k.putF hd _) hs
    case skip => obtain ⟨i, hu, hs⟩ := h; rw [← hu]; exact hr i _ _ (k.putF hd _) hs
    case enter f args => exact h.mono fun e w'' ⟨i, he, hs⟩ => by subst he; exact hr i _ _ (k.putF hd _) hs
  | halt x w' => exact h.elim
theorem RS.q {v : Value} {w0 : World} {G : List Ch} (h : Qt P n o fr (Sat w0 G) v) (hg : gval ops fr o.guard = some true) (hd : dOk n o.dst = true) (hr : RS P n ops Q rest (putF o.dst v fr) (Sat w0 G)) : RS P n ops Q (o :: rest) fr (Sat w0 G) :=
  RS.solid (h.sd (ClE.sat w0 G) (fun _ s => s)) hg hd fun _ => hr
theorem RS.p {v : Value} (h : Pu P n o fr v) (hg : gval ops fr o.guard = some true) (hd : dOk n o.dst = true) (hr : RS P n ops Q rest (putF o.dst v fr) S) : RS P n ops Q (o :: rest) fr S := by
  refine RS.solid (val := fun _ : Unit => v) (S' := fun _ => S) (fun a w k s => ?_) hg hd fun _ => hr
  rw [h a k w]; exact ⟨(), rfl, s⟩
theorem RS.no (hg : gval ops fr o.guard = some false) (hd : dOk n o.dst = true) (hr : RS P n ops Q rest (putF o.dst undef fr) S) : RS P n ops Q (o :: rest) fr S := by
  intro a w k s
  unfold wpList
  rw [wanted_of k hg, if_neg (by simp)]
  exact hr _ _ (k.putF hd _) s
theorem RS.split {l : List Oper} (d : Nat) {b : Bool} (hb : look fr d = some (.bool b)) (ht : b = true → RS P n ops Q l ((d, .bool true) :: fr) S) (hf : b = false → RS P n ops Q l ((d, .bool false) :: fr) S) : RS P n ops Q l fr S := by
  intro a w k s
  have kb : Knows n ((d, .bool b) :: fr) a := ⟨k.size, k.defers, fun i v hi => by
    rw [look_cons] at hi
    by_cases h : i = d
    · subst h; rw [if_pos rfl] at hi; cases hi; exact k.get _ _ hb
    · rw [if_neg h] at hi; exact k.get _ _ hi⟩
  cases b with
  | true => exact ht rfl a w kb s
  | false => exact hf rfl a w kb s
theorem RS.splitP {l : List Oper} (d : Nat) {p : Prop} [Decidable p] (hb : look fr d = some (.bool (decide p))) (ht : p → RS P n ops Q l ((d, .bool true) :: fr) S) (hf : ¬ p → RS P n ops Q l ((d, .bool false) :: fr) S) : RS P n ops Q l fr S :=
  RS.split d hb (fun h => ht (of_decide_eq_true h)) (fun h => hf (of_decide_eq_false h))
end

/-! ### The operations that only compute -/
def binI (op : BinOp) (k : IntKind) (a b : Int) : Option Value :=
  match op with
  | .add => some (.int k (k.wrap (a + b)))
  | .sub => some (.int k (k.wrap (a - b)))
  | .mul => some (.int k (k.wrap (a * b)))
  | .eql => some (.bool (decide (a = b)))
  | .neq => some (.bool (decide (¬ a = b)))
  | .lss => some (.bool (decide (a < b)))
  | .leq => some (.bool (decide (a ≤ b)))
  | .gtr => some (.bool (decide (b < a)))
  | .geq => some (.bool (decide (b ≤ a)))
  | .and => some (.int k (k.wrap ((BitVec.ofInt k.bits a &&& BitVec.ofInt k.bits b).toNat)))
  | .or => some (.int k (k.wrap ((BitVec.ofInt k.bits a ||| BitVec.ofInt k.bits b).toNat)))
  | .xor => some (.int k (k.wrap ((BitVec.ofInt k.bits a ^^^ BitVec.ofInt k.bits b).toNat)))
  | _ => none

section
variable {P : Program} {n : Nat} {fr : Fr} {dst : Option Tmp} {ty : TypeId} {pos : String} {aft : Array Edge} {g : Option (Nat × Bool)}
theorem Pu.move {x : Operand} {v : Value} (h : ev fr x = some v) : Pu P n ⟨dst, .move x, ty, pos, aft, g⟩ fr v := fun a k w => by simp [execOp, k.ev h]
theorem Pu.assign {x : Operand} {v : Value} (h : ev fr x = some v) : Pu P n ⟨dst, .assign x, ty, pos, aft, g⟩ fr v := fun a k w => by simp [execOp, k.ev h]
theorem Pu.pickT {c x y : Operand} {v : Value} (hc : ev fr c = some (.bool true)) (h : ev fr x = some v) : Pu P n ⟨dst, .pick c x y, ty, pos, aft, g⟩ fr v := fun a k w => by simp [execOp, k.ev hc, k.ev h, asBool]
theorem Pu.pickF {c x y : Operand} {v : Value} (hc : ev fr c = some (.bool false)) (h : ev fr y = some v) : Pu P n ⟨dst, .pick c x y, ty, pos, aft, g⟩ fr v := fun a k w => by simp [execOp, k.ev hc, k.ev h, asBool]
theorem Pu.nilCheck {x : Operand} {p : Addr} (h : ev fr x = some (.pointer (some p))) : Pu P n ⟨dst, .nilCheck x, ty, pos, aft, g⟩ fr (.pointer (some p)) := fun a k w => by simp [execOp, k.ev h]
theorem Pu.bin {op : BinOp} {xt yt : TypeId} {x y : Operand} {k : IntKind} {a b : Int} {v : Value} (hx : ev fr x = some (.int k a)) (hy : ev fr y = some (.int k b)) (h : binI op k a b = some v) :
    Pu P n ⟨dst, .binOp op xt x y yt, ty, pos, aft, g⟩ fr v := fun ac kn w => by
  cases op <;> simp only [binI, Option.some.injEq, reduceCtorEq] at h <;> subst h <;>
    simp [execOp, kn.ev hx, kn.ev hy, binOp, eqGuard, Op.intArith, Op.intCmp, Op.intBits, BEq.beq, bne, GT.gt, GE.ge]
theorem Pu.addS {xt yt : TypeId} {x y : Operand} {a b : Int} (hx : ev fr x = some (.int .i64 a)) (hy : ev fr y = some (.int .i64 b)) (h : -9223372036854775808 ≤ a + b ∧ a + b ≤ 9223372036854775807) :
    Pu P n ⟨dst, .binOp .add xt x y yt, ty, pos, aft, g⟩ fr (.int .i64 (a + b)) := Pu.bin hx hy (by rw [binI, IntWalk.i64_in _ h])
theorem Pu.subS {xt yt : TypeId} {x y : Operand} {a b : Int} (hx : ev fr x = some (.int .i64 a)) (hy : ev fr y = some (.int .i64 b)) (h : -9223372036854775808 ≤ a - b ∧ a - b ≤ 9223372036854775807) :
    Pu P n ⟨dst, .binOp .sub xt x y yt, ty, pos, aft, g⟩ fr (.int .i64 (a - b)) := Pu.bin hx hy (by rw [binI, IntWalk.i64_in _ h])
theorem Pu.mulS {xt yt : TypeId} {x y : Operand} {a b : Int} (hx : ev fr x = some (.int .i64 a)) (hy : ev fr y = some (.int .i64 b)) (h : -9223372036854775808 ≤ a * b ∧ a * b ≤ 9223372036854775807) :
    Pu P n ⟨dst, .binOp .mul xt x y yt, ty, pos, aft, g⟩ fr (.int .i64 (a * b)) := Pu.bin hx hy (by rw [binI, IntWalk.i64_in _ h])
theorem Pu.quoW {xt yt : TypeId} {x y : Operand} {k : IntKind} {a b : Int} (hx : ev fr x = some (.int k a)) (hy : ev fr y = some (.int k b)) (h : b ≠ 0) :
    Pu P n ⟨dst, .binOp .quo xt x y yt, ty, pos, aft, g⟩ fr (.int k (k.wrap (a.tdiv b))) := fun ac kn w => by
  simp [execOp, kn.ev hx, kn.ev hy, binOp, eqGuard, Op.intDiv, h]
theorem Pu.quoN {xt yt : TypeId} {x y : Operand} {a b : Int} (hx : ev fr x = some (.int .i64 a)) (hy : ev fr y = some (.int .i64 b)) (h : 0 ≤ a ∧ a ≤ 9223372036854775807 ∧ 1 ≤ b) :
    Pu P n ⟨dst, .binOp .quo xt x y yt, ty, pos, aft, g⟩ fr (.int .i64 (a / b)) := by
  have := Pu.quoW (P := P) (n := n) (dst := dst) (ty := ty) (pos := pos) (aft := aft) (g := g) (xt := xt) (yt := yt) hx hy (by omega)
  rwa [IntWalk.i64_quo a b h] at this
theorem Pu.remW {xt yt : TypeId} {x y : Operand} {k : IntKind} {a b : Int} (hx : ev fr x = some (.int k a)) (hy : ev fr y = some (.int k b)) (h : b ≠ 0) :
    Pu P n ⟨dst, .binOp .rem xt x y yt, ty, pos, aft, g⟩ fr (.int k (a.tmod b)) := fun ac kn w => by
  simp [execOp, kn.ev hx, kn.ev hy, binOp, eqGuard, Op.intDiv, h]
theorem Pu.remN {xt yt : TypeId} {x y : Operand} {k : IntKind} {a b : Int} (hx : ev fr x = some (.int k a)) (hy : ev fr y = some (.int k b)) (h : 0 ≤ a ∧ 1 ≤ b) :
    Pu P n ⟨dst, .binOp .rem xt x y yt, ty, pos, aft, g⟩ fr (.int k (a % b)) := by
  have := Pu.remW (P := P) (n := n) (dst := dst) (ty := ty) (pos := pos) (aft := aft) (g := g) (xt := xt) (yt := yt) hx hy (by omega)
  rwa [IntWalk.rem_in a b h.1] at this
/-- What a bool is held against another one. -/
theorem Pu.eqB {xt yt : TypeId} {x y : Operand} {a b : Bool} (ht : P.underlying xt = some .bool) (hx : ev fr x = some (.bool a)) (hy : ev fr y = some (.bool b)) :
    Pu P n ⟨dst, .binOp .eql xt x y yt, ty, pos, aft, g⟩ fr (.bool (decide (a = b))) := fun ac kn w => by
  have h := run_eql_bool (P := P) w xt a b ht
  have e : (a == b) = decide (a = b) := by cases a <;> cases b <;> rfl
  simp only [execOp, kn.ev hx, kn.ev hy, eqGuard, Sem.run_bind, h, Result.andThen_ok, Sem.run_pure, e, Bool.not_true, Bool.false_eq_true, ↓reduceIte]
theorem Pu.neB {xt yt : TypeId} {x y : Operand} {a b : Bool} (ht : P.underlying xt = some .bool) (hx : ev fr x = some (.bool a)) (hy : ev fr y = some (.bool b)) :
    Pu P n ⟨dst, .binOp .neq xt x y yt, ty, pos, aft, g⟩ fr (.bool (decide (¬ a = b))) := fun ac kn w => by
  have h := run_neq_bool (P := P) w xt a b ht
  have e : (!(a == b)) = decide (¬ a = b) := by cases a <;> cases b <;> rfl
  simp only [execOp, kn.ev hx, kn.ev hy, eqGuard, Sem.run_bind, h, Result.andThen_ok, Sem.run_pure, e, Bool.not_true, Bool.false_eq_true, ↓reduceIte]
/-- A pointer against nil. -/
theorem pointee_of {t e : TypeId} (h : P.underlying t = some (.pointer e)) : P.underlying t = some (.pointer (P.pointee t)) := by simp [Program.pointee, h]
theorem Pu.eqNil {xt yt e : TypeId} {x : Operand} {p : Option Addr} (ht : P.underlying xt = some (.pointer e)) (hx : ev fr x = some (.pointer p)) :
    Pu P n ⟨dst, .binOp .eql xt x (.const (.pointer none)) yt, ty, pos, aft, g⟩ fr (.bool p.isNone) := fun ac kn w => by
  have h := run_eql_pointer_nil (P := P) w xt p (pointee_of ht)
  have hc : ac.eval (.const (.pointer none)) = .pointer none := rfl
  simp only [execOp, kn.ev hx, hc, eqGuard, Sem.run_bind, h, Result.andThen_ok, Sem.run_pure, Bool.not_true, Bool.false_eq_true, ↓reduceIte]
theorem Pu.neNil {xt yt e : TypeId} {x : Operand} {p : Option Addr} (ht : P.underlying xt = some (.pointer e)) (hx : ev fr x = some (.pointer p)) :
    Pu P n ⟨dst, .binOp .neq xt x (.const (.pointer none)) yt, ty, pos, aft, g⟩ fr (.bool (!p.isNone)) := fun ac kn w => by
  have h := run_neq_pointer_nil (P := P) w xt p (pointee_of ht)
  have hc : ac.eval (.const (.pointer none)) = .pointer none := rfl
  simp only [execOp, kn.ev hx, hc, eqGuard, Sem.run_bind, h, Result.andThen_ok, Sem.run_pure, Bool.not_true, Bool.false_eq_true, ↓reduceIte]
theorem Pu.notP {x : Operand} {t : TypeId} {p : Prop} [Decidable p] (hx : ev fr x = some (.bool (decide p))) : Pu P n ⟨dst, .unOp .not t x, ty, pos, aft, g⟩ fr (.bool (decide (¬ p))) := fun ac kn w => by
  simp [execOp, kn.ev hx, Op.unary]
theorem Pu.not {x : Operand} {t : TypeId} {b : Bool} (hx : ev fr x = some (.bool b)) : Pu P n ⟨dst, .unOp .not t x, ty, pos, aft, g⟩ fr (.bool (!b)) := fun ac kn w => by
  simp [execOp, kn.ev hx, Op.unary]
theorem Pu.negS {x : Operand} {t : TypeId} {a : Int} (hx : ev fr x = some (.int .i64 a)) (h : -9223372036854775807 ≤ a ∧ a ≤ 9223372036854775807) : Pu P n ⟨dst, .unOp .neg t x, ty, pos, aft, g⟩ fr (.int .i64 (-a)) := fun ac kn w => by
  simp [execOp, kn.ev hx, Op.unary, Op.intArith, IntWalk.i64_in (-a) (by omega)]
theorem Pu.conv {x : Operand} {s d : TypeId} {k k' : IntKind} {a : Int} (hs : (P.underlying s).isSome = true) (hd : P.underlying d = some (.int k')) (hx : ev fr x = some (.int k a)) :
    Pu P n ⟨dst, .convert s d x, ty, pos, aft, g⟩ fr (.int k' (k'.wrap a)) := fun ac kn w => by
  obtain ⟨ds, hs'⟩ := Option.isSome_iff_exists.mp hs
  simp [execOp, kn.ev hx, convert, run_underlying hs', run_underlying hd, Conv.intToInt]
theorem Pu.fieldAddr {s : TypeId} {x : Operand} {f off b o : Nat} (hf : fdOff P s f = some off) (hx : ev fr x = some (.pointer (some ⟨b, o, none⟩))) :
    Pu P n ⟨dst, .fieldAddr s x f, ty, pos, aft, g⟩ fr (.pointer (some ⟨b, o + off, none⟩)) := fun ac kn w => by
  unfold fdOff at hf
  split at hf
  · rename_i fs h1
    split at hf
    · rename_i d h2
      split at hf
      · rename_i i h3
        split at hf
        · cases hf
        · rename_i h4
          cases hf
          simp [execOp, kn.ev hx, Instr.fieldAt, run_underlying h1, h2, Instr.sureAddr, fieldPlace, run_sizeOf_info h3, h4, add_lit]
      · cases hf
    · cases hf
  · cases hf
theorem Pu.indexSl {t e : TypeId} {x i : Operand} {sz by' b o len cap : Nat} {k : IntKind} {j : Int} (ht : slTy P t = some (e, sz, by')) (hx : ev fr x = some (.slice (some ⟨b, o, none⟩) len cap)) (hi : ev fr i = some (.int k j)) (h : 0 ≤ j ∧ j < len) :
    Pu P n ⟨dst, .indexAddr t x i, ty, pos, aft, g⟩ fr (.pointer (some ⟨b, o + j.toNat * sz, none⟩)) := fun ac kn w => by
  obtain ⟨h1, inf, h2, rfl, _⟩ := slTy_spec ht
  simp [execOp, kn.ev hx, kn.ev hi, Instr.indexAt, asIntOf, run_underlying h1, run_sizeOf_info h2, h.1, h.2, add_lit]
theorem Pu.indexAr {t e : TypeId} {x i : Operand} {sz b o len : Nat} {k : IntKind} {j : Int} (ht : arTy P t = some (len, e, sz)) (hx : ev fr x = some (.pointer (some ⟨b, o, none⟩))) (hi : ev fr i = some (.int k j)) (h : 0 ≤ j ∧ j < len) :
    Pu P n ⟨dst, .indexAddr t x i, ty, pos, aft, g⟩ fr (.pointer (some ⟨b, o + j.toNat * sz, none⟩)) := fun ac kn w => by
  obtain ⟨h1, inf, h2, rfl⟩ := arTy_spec ht
  simp [execOp, kn.ev hx, kn.ev hi, Instr.indexAt, asIntOf, run_underlying h1, run_sizeOf_info h2, h.1, h.2, add_lit, Instr.sureAddr]
theorem Pu.lenSl {e : TypeId} {x : Operand} {at' : TypeId} {sz by' len cap : Nat} {p : Option Addr} (ht : slTy P at' = some (e, sz, by')) (hx : ev fr x = some (.slice p len cap)) :
    Pu P n ⟨dst, .call { callee := .builtin .len, args := #[x], argTypes := #[at'] }, ty, pos, aft, g⟩ fr (.int .i64 len) := fun ac kn w => by
  obtain ⟨h1, _⟩ := slTy_spec ht
  simp [execOp, kn.ev hx, resolve, invoke, builtin, Builtin.len_, run_underlying h1, goInt]
theorem Pu.extract {x : Operand} {i : Nat} {vs : Array Value} {v : Value} (hx : ev fr x = some (.tuple vs)) (h : vs[i]? = some v) : Pu P n ⟨dst, .extract x i, ty, pos, aft, g⟩ fr v := fun ac kn w => by
  simp [execOp, kn.ev hx, Instr.extract, h]
/-- A slice of a slice: nothing is read. -/
theorem Pu.sliceH {t e : TypeId} {x hi : Operand} {sz by' len cap : Nat} {p : Option Addr} {k : IntKind} {j : Int} (ht : slTy P t = some (e, sz, by')) (hx : ev fr x = some (.slice p len cap)) (hh : ev fr hi = some (.int k j)) (h : 0 ≤ j ∧ j ≤ cap) :
    Pu P n ⟨dst, .slice t x none (some hi) none, ty, pos, aft, g⟩ fr (.slice p j.toNat cap) := fun ac kn w => by
  obtain ⟨h1, inf, h2, rfl, _⟩ := slTy_spec ht
  have ho : 0 = cap ∨ ¬ 0 = cap := by omega
  simp [execOp, kn.ev hx, kn.ev hh, Instr.sliceAt, Instr.slice, Instr.sliceBounds, Instr.sliceBound, asIntOf, run_underlying h1, run_sizeOf_info h2, h.1, h.2, Addr.add]
end
end Go.Vg
