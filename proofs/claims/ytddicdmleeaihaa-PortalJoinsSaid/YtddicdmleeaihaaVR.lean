/-
  Function values, pointers to blocks that stand already, arrays that are indexed as values. For every program. A library of this claim's own.
-/
import Derived.Test.YtddicdmleeaihaaVQ
import Derived.Test.YtddicdmleeaihaaVN
import Derived.Laws.StructEq
set_option linter.unusedSimpArgs false
set_option linter.unusedVariables false
namespace Go.Vg
open Enc (R)
/-- A function value that reckons p, in whatever world from w on. -/
def FnQ (P : Program) (w : World) (v : Value) {α β : Type} (enc : α → List Value) (dec : β → Value) (p : α → Option β) : Prop :=
  ∃ (f : FuncId) (cs : List Value), v = .func (.func f) #[] cs.toArray ∧ Ent P f ∧ ∀ x r w', Ext w w' → p x = some r → Calls P f (enc x ++ cs).toArray w' fun e w'' => e = .returned (dec r) ∧ Ext w' w''
section
variable {P : Program} {n : Nat} {fr : Fr} {dst : Option Tmp} {ty : TypeId} {pos : String} {aft : Array Edge} {g : Option (Nat × Bool)} {S : As} {w0 : World} {G : List Ch}
theorem FnQ.ext {w w1 : World} {v : Value} {α β : Type} {enc : α → List Value} {dec : β → Value} {p : α → Option β} (he : Ext w w1) (h : FnQ P w v enc dec p) : FnQ P w1 v enc dec p := by
  obtain ⟨f, cs, h1, h2, h3⟩ := h
  exact ⟨f, cs, h1, h2, fun x r w' e hp => h3 x r w' (he.trans e) hp⟩
theorem run_enterV {f : FuncId} {cs : Array Value} {xo : Operand} {xs : List Operand} {ts : Array TypeId} {vs : List Value} (he : Ent P f) (hv : ev fr xo = some (.func (.func f) #[] cs)) (hx : evs fr xs = some vs) {a : Act} (k : Knows n fr a) (w : World) :
    (execOp a.eval ⟨dst, .call { callee := .value xo, args := xs.toArray, argTypes := ts }, ty, pos, aft, g⟩).run P w = .ok (.enter f (vs.toArray ++ cs)) w := by
  obtain ⟨fn, c, h1, h2, h3⟩ := he
  have h2' : ¬ fn.name = "runtime.NumGoroutine" := by simpa using h2
  have := k.evs hx
  have hv' := k.ev hv
  simp [execOp, resolve, hv', Deferred.ofValue, invoke, callFunc, h1, h2', h3, this]
theorem Qt.callV {xo : Operand} {xs : List Operand} {ts : Array TypeId} {v : Value} {α β : Type} {enc : α → List Value} {dec : β → Value} {p : α → Option β} (hv : ev fr xo = some v) (hf : FnQ P w0 v enc dec p) (hs : ∀ w, S w → Ext w0 w) {x : α} {r : β} (hr : p x = some r) (hx : evs fr xs = some (enc x)) :
    Qt P n ⟨dst, .call { callee := .value xo, args := xs.toArray, argTypes := ts }, ty, pos, aft, g⟩ fr S (dec r) := fun a w k s => by
  obtain ⟨f, cs, rfl, he, hc⟩ := hf
  rw [run_enterV he hv hx k]
  have := hc x r w (hs w s) hr
  rw [show (enc x).toArray ++ cs.toArray = (enc x ++ cs).toArray by simp]
  exact ⟨Ext.refl w, this⟩
theorem Pu.makeFunc {f : FuncId} {xs : List Operand} {cs : List Value} (hx : evs fr xs = some cs) : Pu P n ⟨dst, .makeFunc (.func f) #[] xs.toArray, ty, pos, aft, g⟩ fr (.func (.func f) #[] cs.toArray) := fun a k w => by
  have := k.evs hx
  simp [execOp, Instr.makeFunc, this]
theorem Pu.shr1 {xt yt : TypeId} {x y : Operand} {a : Int} (hx : ev fr x = some (.int .u64 a)) (hy : ev fr y = some (.int .u64 1)) (ha : 0 ≤ a) :
    Pu P n ⟨dst, .binOp .shr xt x y yt, ty, pos, aft, g⟩ fr (.int .u64 (a / 2)) := fun ac kn w => by
  have h := shift_shr_any .u64 .u64 a 1 (by decide)
  simp [execOp, kn.ev hx, kn.ev hy, binOp, eqGuard, h, IntKind.bits]
/-- A struct of numbers: where its fields lie. -/
def eqTy (P : Program) (t : TypeId) : Option (List Nat) := match P.underlying t with
  | some (.struct fs) => if (fs.toList.all fun f => f.name != "_" && (match P.underlying f.type with | some (.int _) => true | _ => false) && tySz P f.type == some (1, false)) && !P.stoodInHeld t && !P.eqGuardType P.depth t then some (fs.toList.map (·.offset)) else none
  | _ => none
def eqAt (xs ys : List Value) : List Nat → Option Bool
  | [] => some true
  | o :: r => match xs[o]?, ys[o]? with
    | some (.int k a), some (.int k' b) => if k = k' then (eqAt xs ys r).map fun q => a == b && q else none
    | _, _ => none
theorem run_eqFields {P : Program} {d : Nat} {xs ys : List Value} : ∀ (fs : List Field) {r : Bool}, (fs.all fun f => f.name != "_" && (match P.underlying f.type with | some (.int _) => true | _ => false) && tySz P f.type == some (1, false)) = true → eqAt xs ys (fs.map (·.offset)) = some r → ∀ w, (Op.eqFields (d + 1) xs.toArray ys.toArray fs).run P w = .ok r w
  | [], r, _, hr, w => by cases hr; simp [Op.eqFields]
  | f :: fs, r, hf, hr, w => by
    simp only [List.all_cons, Bool.and_eq_true, bne_iff_ne, ne_eq, beq_iff_eq] at hf
    obtain ⟨⟨⟨h1, h2⟩, h3⟩, h4⟩ := hf
    simp only [List.map_cons, eqAt] at hr
    cases hx : xs[f.offset]? with
    | none => simp [hx] at hr
    | some x =>
      cases hy : ys[f.offset]? with
      | none => cases x <;> simp [hx, hy] at hr
      | some y =>
        rw [hx, hy] at hr
        cases x <;> cases y <;> simp only [reduceCtorEq] at hr
        rename_i k a k' b
        by_cases hk : k = k'
        · subst hk
          simp only [if_true] at hr
          cases he : eqAt xs ys (fs.map (·.offset)) with
          | none => simp [he] at hr
          | some q =>
            simp only [he, Option.map_some, Option.some.injEq] at hr
            subst hr
            have hu : ∃ k', P.underlying f.type = some (.int k') := by
              split at h2
              · rename_i k' e; exact ⟨k', e⟩
              · cases h2
            obtain ⟨k', hu⟩ := hu
            have hpx : (part f.type xs.toArray f.offset).run P w = .ok (.int k a) w := by
              simp [part, run_isAgg_of h3, hx]
            have hpy : (part f.type ys.toArray f.offset).run P w = .ok (.int k b) w := by
              simp [part, run_isAgg_of h3, hy]
            have ih := run_eqFields (d := d) fs h4 he w
            simp only [Op.eqFields, if_pos (show f.name ≠ "_" from h1), Sem.run_bind, hpx, hpy, Result.andThen_ok, run_equalIn_int w d f.type k k' a b hu, Sem.run_ite, Sem.run_pure, ih]
            by_cases hab : a = b
            · simp [hab]
            · simp [hab]
        · simp [hk] at hr
theorem eqTy_spec {P : Program} {t : TypeId} {offs : List Nat} (h : eqTy P t = some offs) : ∃ fs : Array Field, P.underlying t = some (.struct fs) ∧ fs.toList.map (·.offset) = offs ∧ (fs.toList.all fun f => f.name != "_" && (match P.underlying f.type with | some (.int _) => true | _ => false) && tySz P f.type == some (1, false)) = true ∧ P.stoodInHeld t = false ∧ P.eqGuardType P.depth t = false := by
  unfold eqTy at h
  split at h
  · rename_i fs e
    split at h
    · rename_i hc
      simp only [Bool.and_eq_true, Bool.not_eq_true'] at hc
      cases h
      exact ⟨fs, e, rfl, hc.1.1, hc.1.2, hc.2⟩
    · cases h
  · cases h
theorem Pu.neSt {xt yt : TypeId} {x y : Operand} {xs ys : List Value} {offs : List Nat} {r : Bool} {p : Prop} [Decidable p] (ht : eqTy P xt = some offs) (hx : ev fr x = some (.agg xs.toArray)) (hy : ev fr y = some (.agg ys.toArray)) (hr : eqAt xs ys offs = some r) (he : r = decide p) :
    Pu P n ⟨dst, .binOp .neq xt x y yt, ty, pos, aft, g⟩ fr (.bool (decide (¬ p))) := fun ac kn w => by
  obtain ⟨fs, h1, h2, h3, h4, h5⟩ := eqTy_spec ht
  subst h2; subst he
  have hf : P.fieldsOf xt = fs := by simp [Program.fieldsOf, h1]
  have e := run_eqFields (d := 9998) fs.toList h3 hr w
  have e2 := run_equalIn_agg (P := P) w 9999 xt xs.toArray ys.toArray (by rw [hf]; exact h1) h4
  rw [hf, e] at e2
  simp only [execOp, kn.ev hx, kn.ev hy, Sem.run_bind, Sem.run_pure, run_eqGuard_agg w .neq xt x y xs.toArray ys.toArray h5, Result.andThen_ok, run_neq_struct, e2]
  simp
theorem Pu.eqSt {xt yt : TypeId} {x y : Operand} {xs ys : List Value} {offs : List Nat} {r : Bool} {p : Prop} [Decidable p] (ht : eqTy P xt = some offs) (hx : ev fr x = some (.agg xs.toArray)) (hy : ev fr y = some (.agg ys.toArray)) (hr : eqAt xs ys offs = some r) (he : r = decide p) :
    Pu P n ⟨dst, .binOp .eql xt x y yt, ty, pos, aft, g⟩ fr (.bool (decide p)) := fun ac kn w => by
  obtain ⟨fs, h1, h2, h3, h4, h5⟩ := eqTy_spec ht
  subst h2; subst he
  have hf : P.fieldsOf xt = fs := by simp [Program.fieldsOf, h1]
  have e := run_eqFields (d := 9998) fs.toList h3 hr w
  have e2 := run_equalIn_agg (P := P) w 9999 xt xs.toArray ys.toArray (by rw [hf]; exact h1) h4
  rw [hf, e] at e2
  simp only [execOp, kn.ev hx, kn.ev hy, Sem.run_bind, Sem.run_pure, run_eqGuard_agg w .eql xt x y xs.toArray ys.toArray h5, Result.andThen_ok, run_eql_struct, e2]
theorem blk_ext {w w' : World} {b : Nat} {cs : List Value} {e : TypeId} (he : Ext w w') (h : blk b cs e (hpOf w)) : blk b cs e (hpOf w') := he.hp _ _ h
theorem blk_of {w : World} {k b : Nat} {cs : List Value} {e : TypeId} (s : Sat w0 G w) (hk : G[k]? = some (blk b cs e)) : blk b cs e (hpOf w) := (s.getBlk hk).1
theorem Qt.ldX {t e : TypeId} {x : Operand} {b o : Nat} {cs : List Value} {v : Value} (ht : tySz P t = some (1, false)) (hx : ev fr x = some (.pointer (some ⟨b, o, none⟩))) (hb : blk b cs e (hpOf w0)) (hs : ∀ w, S w → Ext w0 w) (hv : cs[o]? = some v) :
    Qt P n ⟨dst, .load t x, ty, pos, aft, g⟩ fr S v := Qt.ld ht hx fun w s => by
  have h := (hs w s).hp _ _ hb
  have h' : w.heap[b]? = some (.cells cs.toArray e (0, 0)) := h
  simp [World.cell?, h', hv]
theorem Qt.ldXA {t sz e : TypeId} {x : Operand} {b o : Nat} {cs us : List Value} (ht : tySz P t = some (sz, true)) (hx : ev fr x = some (.pointer (some ⟨b, o, none⟩))) (hb : blk b cs e (hpOf w0)) (hs : ∀ w, S w → Ext w0 w) (hu : (cs.drop o).take sz = us) (hl : us.length = sz) :
    Qt P n ⟨dst, .load t x, ty, pos, aft, g⟩ fr S (.agg us.toArray) := Qt.ldA ht hx hl fun w s j v hj => by
  subst hu
  have h := (hs w s).hp _ _ hb
  have h' : w.heap[b]? = some (.cells cs.toArray e (0, 0)) := h
  rw [List.getElem?_take] at hj
  split at hj
  · rw [List.getElem?_drop] at hj
    simp [World.cell?, h', hj]
  · cases hj
end
end Go.Vg
