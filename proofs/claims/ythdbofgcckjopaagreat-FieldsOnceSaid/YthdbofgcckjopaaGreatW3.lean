/-
  Texts of one's own, joined: VQ VR VP VS VT VU VW VX VY V1 V3 V4 V7 V8 V9 WA.
-/
import Derived.Test.YthdbofgcckjopaaGreatW2
import Derived.Laws.StructEq
import Derived.Laws.LoneSync
import Derived.MapKept
import Derived.RangeFuncIn
import Derived.RangeFuncRecord
import Derived.RangeFuncLeaves
import Derived.TacticsIn
import Derived.OrdersIn
import Derived.Sort.LoopGhostIn
set_option linter.unusedSimpArgs false
set_option linter.unusedVariables false
namespace Go.Vg
/-- A plan: one step and what follows; or two steps that may come in either order, each with what follows it. -/
inductive Pl
  | nil
  | st (i : Nat) (k : Kd) (r : Pl)
  | two (i : Nat) (k : Kd) (r : Pl) (j : Nat) (kj : Kd) (rj : Pl)
def Pl.len : Pl → Nat
  | .nil => 0
  | .st _ _ r => r.len + 1
  | .two _ _ r _ _ _ => r.len + 1
def plOk (ops : Array Oper) (full : List (Nat × Kd)) : Array Bool → Pl → Bool
  | listed, .nil => (Region.ready .any ops listed).isEmpty
  | listed, .st i k r => (Region.ready .any ops listed).contains i && full.lookup i == some k &&
    (match k with
      | .pu | .wk => freeOf ops listed i
      | .rd => freeOf ops listed i && full.all fun (j, kj) => kj != .br || listed.getD j true || waits ops j i
      | .so | .br => Region.ready .any ops listed == [i]) &&
    plOk ops full (listed.setIfInBounds i true) r
  | listed, .two i k r j kj rj => Region.ready .any ops listed == [i, j] && full.lookup i == some k && full.lookup j == some kj && (k == .so || k == .br) && (kj == .so || kj == .br) && r.len == rj.len &&
    plOk ops full (listed.setIfInBounds i true) r && plOk ops full (listed.setIfInBounds j true) rj
def RT (P : Program) (n : Nat) (ops : Array Oper) (Q : Po) (full : List (Nat × Kd)) (Cw : As) (pl : Pl) (fr : Fr) (S : As) : Prop :=
  ∀ listed, plOk ops full listed pl = true → noSel ops = true → (∃ w, S w) → AX P n ops Q (fun i => (full.lookup i).getD .so) Cw pl.len listed fr S
/-- One of the two, taken now. -/
def RT1 (P : Program) (n : Nat) (ops : Array Oper) (Q : Po) (full : List (Nat × Kd)) (Cw : As) (i : Nat) (k : Kd) (r : Pl) (fr : Fr) (S : As) : Prop :=
  ∀ listed : Array Bool, full.lookup i = some k → plOk ops full (listed.setIfInBounds i true) r = true → noSel ops = true → (∃ w, S w) →
    StepX P n ops (fun i => (full.lookup i).getD .so) Cw i fr S (fun fr' S' => AX P n ops Q (fun i => (full.lookup i).getD .so) Cw r.len (listed.setIfInBounds i true) fr' S')
section
variable {P : Program} {n : Nat} {ops : Array Oper} {Q : Po} {full : List (Nat × Kd)} {Cw S : As} {fr : Fr} {pl : Pl}
theorem mem_of_lookup {j : Nat} : ∀ {l : List (Nat × Kd)} {k : Kd}, l.lookup j = some k → (j, k) ∈ l
  | x :: l, k, h => by
    obtain ⟨y, ky⟩ := x
    rw [List.lookup_cons] at h
    split at h
    · rename_i e; cases h; simp at e; simp [e]
    · exact List.mem_cons_of_mem _ (mem_of_lookup h)
theorem RT.nil (h : Cont n (Q .normal) fr S) : RT P n ops Q full Cw .nil fr S := fun listed hp _ _ => ⟨by simpa [plOk] using hp, h⟩
theorem RT.quiet {i : Nat} {k : Kd} {o : Oper} {v : Value} (C : As) (hi : ops[i]? = some o) (hk : k = .pu ∨ k = .wk ∨ k = .rd) (hcl : ClE S) (hcw : ∀ w, S w → Cw w) (hC : ∀ w, S w → C w) (hkC : k ≠ .rd → ∀ w, Cw w → C w)
    (hq : QX P n ops o fr C v) (h : RT P n ops Q full Cw pl (putF o.dst v fr) S) : RT P n ops Q full Cw (.st i k pl) fr S := by
  intro listed hp hns hex
  simp only [plOk, Bool.and_eq_true, List.contains_iff_mem, beq_iff_eq] at hp
  obtain ⟨⟨⟨h1, hf⟩, h2⟩, h3⟩ := hp
  have hnb : k ≠ .br := by rcases hk with rfl | rfl | rfl <;> simp
  have hfree : freeOf ops listed i = true := by
    rcases hk with rfl | rfl | rfl <;> simp at h2
    · exact h2
    · exact h2
    · exact h2.1
  refine AX.first (noSel_spec hns) hi (by simp [hf, hnb]) pl.len listed fr S C hcl hcw hC ?_ (freeOf_spec hi hfree) h1 hq (h _ h3 hns hex)
  intro j hkj hl hw
  by_cases hkr : k = .rd
  · subst hkr
    simp only [Bool.and_eq_true, List.all_eq_true] at h2
    have hj : full.lookup j = some .br := by
      cases hlj : full.lookup j with
      | none => simp [hlj] at hkj
      | some x => simp [hlj] at hkj; rw [hkj]
    have := h2.2 _ (mem_of_lookup hj)
    simp [hw] at this
    have e : listed[j]?.getD true = false := by simpa using hl
    rw [e] at this; cases this
  · exact hkC hkr
theorem RT1.solid {i : Nat} {k : Kd} {o : Oper} (hi : ops[i]? = some o) (hk : k = .so ∨ k = .br) {ι : Type} {val : ι → Value} {S' : ι → As} (hd : dOk n o.dst = true) (hg : gval ops fr o.guard = some true) (hs : Sd P n o fr S val S')
    (hcl : ∀ x, ClE (S' x)) (hcw : ∀ x w, S' x w → Cw w) (hpre : k = .so → ∀ x w, S' x w → S w) (h : ∀ x, RT P n ops Q full Cw pl (putF o.dst (val x) fr) (S' x)) : RT1 P n ops Q full Cw i k pl fr S := by
  intro listed hf hp hns hex
  unfold StepX
  simp only [hi]
  refine ⟨hd, .inr ⟨hg, ι, val, S', hs, hcl, hcw, fun hnb => ?_, fun x hey => h x _ hp hns hey⟩⟩
  rcases hk with rfl | rfl
  · exact hpre rfl
  · simp [hf] at hnb
theorem RT.solid {i : Nat} {k : Kd} {o : Oper} (hi : ops[i]? = some o) (hk : k = .so ∨ k = .br) {ι : Type} {val : ι → Value} {S' : ι → As} (hd : dOk n o.dst = true) (hg : gval ops fr o.guard = some true) (hs : Sd P n o fr S val S')
    (hcl : ∀ x, ClE (S' x)) (hcw : ∀ x w, S' x w → Cw w) (hpre : k = .so → ∀ x w, S' x w → S w) (h : ∀ x, RT P n ops Q full Cw pl (putF o.dst (val x) fr) (S' x)) : RT P n ops Q full Cw (.st i k pl) fr S := by
  intro listed hp hns hex
  simp only [plOk, Bool.and_eq_true, List.contains_iff_mem, beq_iff_eq] at hp
  obtain ⟨⟨⟨h1, hf⟩, h2⟩, h3⟩ := hp
  have hone : Region.ready .any ops listed = [i] := by rcases hk with rfl | rfl <;> simpa using h2
  refine ⟨fun h0 => (by rw [hone] at h0; cases h0), fun j hj => ?_⟩
  rw [hone] at hj
  simp at hj; subst hj
  exact RT1.solid hi hk hd hg hs hcl hcw hpre h listed hf h3 hns hex
theorem RT.two {i j : Nat} {k kj : Kd} {r rj : Pl} (h1 : RT1 P n ops Q full Cw i k r fr S) (h2 : RT1 P n ops Q full Cw j kj rj fr S) : RT P n ops Q full Cw (.two i k r j kj rj) fr S := by
  intro listed hp hns hex
  simp only [plOk, Bool.and_eq_true, Bool.or_eq_true, beq_iff_eq] at hp
  obtain ⟨⟨⟨⟨⟨⟨⟨hr, hf⟩, hfj⟩, _⟩, _⟩, hl⟩, hp1⟩, hp2⟩ := hp
  refine ⟨fun h0 => (by rw [hr] at h0; cases h0), fun y hy => ?_⟩
  rw [hr] at hy
  simp at hy
  rcases hy with rfl | rfl
  · exact h1 listed hf hp1 hns hex
  · have := h2 listed hfj hp2 hns hex
    rw [← hl] at this
    exact this
theorem RT.p {i : Nat} {o : Oper} {v : Value} {w0 : World} {G : List Ch} (hcw : ∀ w, Sat w0 G w → Cw w) (hi : ops[i]? = some o) (h : Pu P n o fr v) (hg : gval ops fr o.guard = some true) (hd : dOk n o.dst = true)
    (hr : RT P n ops Q full Cw pl (putF o.dst v fr) (Sat w0 G)) : RT P n ops Q full Cw (.st i .pu pl) fr (Sat w0 G) :=
  RT.quiet (fun _ => True) hi (.inl rfl) (ClE.sat _ _) hcw (fun _ _ => trivial) (fun _ _ _ => trivial) ⟨hd, .inr ⟨hg, h.qt⟩⟩ hr
theorem RT.q {i : Nat} {o : Oper} {v : Value} {w0 : World} {G : List Ch} (hcw : ∀ w, Sat w0 G w → Cw w) (hi : ops[i]? = some o) (h : Qt P n o fr (Sat w0 G) v) (hg : gval ops fr o.guard = some true) (hd : dOk n o.dst = true)
    (hr : RT P n ops Q full Cw pl (putF o.dst v fr) (Sat w0 G)) : RT P n ops Q full Cw (.st i .rd pl) fr (Sat w0 G) :=
  RT.quiet (Sat w0 G) hi (.inr (.inr rfl)) (ClE.sat _ _) hcw (fun _ s => s) (fun h => absurd rfl h) ⟨hd, .inr ⟨hg, h⟩⟩ hr
theorem RT.w {i : Nat} {o : Oper} {v : Value} {w0 : World} {G : List Ch} (hcw : ∀ w, Sat w0 G w → Cw w) (hi : ops[i]? = some o) (h : Qt P n o fr Cw v) (hg : gval ops fr o.guard = some true) (hd : dOk n o.dst = true)
    (hr : RT P n ops Q full Cw pl (putF o.dst v fr) (Sat w0 G)) : RT P n ops Q full Cw (.st i .wk pl) fr (Sat w0 G) :=
  RT.quiet Cw hi (.inr (.inl rfl)) (ClE.sat _ _) hcw hcw (fun _ _ h => h) ⟨hd, .inr ⟨hg, h⟩⟩ hr
theorem RT.know {p : Prop} (hp : ∀ w, S w → p) (h : p → RT P n ops Q full Cw pl fr S) : RT P n ops Q full Cw pl fr S := by
  intro listed h1 h2 ⟨w, s⟩
  exact h (hp w s) listed h1 h2 ⟨w, s⟩
theorem RT1.know {i : Nat} {k : Kd} {p : Prop} (hp : ∀ w, S w → p) (h : p → RT1 P n ops Q full Cw i k pl fr S) : RT1 P n ops Q full Cw i k pl fr S := by
  intro listed h1 h2 h3 ⟨w, s⟩
  exact h (hp w s) listed h1 h2 h3 ⟨w, s⟩
theorem RT.conseq {fr' : Fr} (h : RT P n ops Q full Cw pl fr' S) (hf : Sub fr fr') : RT P n ops Q full Cw pl fr S := by
  intro listed h1 h2 h3
  exact AX.weaken (h listed h1 h2 h3) (fun i v hi => hf.look i v hi)
end
theorem T.weakS {P : Program} {n : Nat} {fr : Fr} {S S' : As} {Q : Po} {c : Code} (hs : ∀ w, S w → S' w) (h : T P n c fr S' Q) : T P n c fr S Q := fun a w k s => h a w k (hs w s)
section
variable {P : Program} {n : Nat} {ops : Array Oper} {Q : Po} {full plan : List (Nat × Kd)} {Cw S : As} {fr : Fr}
end
theorem Cont.ex {n : Nat} {K : Act → World → Prop} {fr : Fr} {S : As} {ι : Type} {S' : ι → As} (hp : ∀ w, S w → ∃ i, S' i w) (h : ∀ i, Cont n K fr (S' i)) : Cont n K fr S := fun a w k s => let ⟨i, s'⟩ := hp w s; h i a w k s'
theorem Cont.weakS {n : Nat} {K : Act → World → Prop} {fr : Fr} {S S' : As} (hs : ∀ w, S w → S' w) (h : Cont n K fr S') : Cont n K fr S := fun a w k s => h a w k (hs w s)
theorem Sat.cellB {w0 w : World} {G : List Ch} (k : Nat) {b : Nat} {cs cs' : List Value} {t : TypeId} (h : Sat w0 G w) (hk : G[k]? = some (blk b cs t)) (e : cs = cs') : Sat w0 (G.set k (blk b cs' t)) w :=
  h.weaken k hk _ fun p hp => by rw [← e]; exact hp
end Go.Vg
set_option linter.unusedSimpArgs false
set_option linter.unusedVariables false
namespace Go.Vg
open Enc (R)
/-- A function value that reckons p, in whatever world from w on. -/
def FnQ (P : Program) (w : World) (v : Value) {α β : Type} (enc : α → List Value) (dec : β → Value) (p : α → Option β) : Prop :=
  ∃ (f : FuncId) (cs : List Value), v = .func (.func f) #[] cs.toArray ∧ Ent P f ∧ ∀ x r w', Ext w w' → p x = some r → Calls P f (enc x ++ cs).toArray w' fun e w'' => e = .returned (dec r) ∧ Ext w' w''
section
variable {P : Program} {n : Nat} {fr : Fr} {dst : Option Tmp} {ty : TypeId} {pos : String} {aft : Array Edge} {g : Option (Nat × Bool)} {S : As} {w0 : World} {G : List Ch}
theorem FnQ.ext {w w1 : World} {v : Value} {α β : Type} {enc : α → List Value} {dec : β → Value} {p : α → Option β} (he : Ext w w1) (h : FnQ P w v enc dec p) : FnQ P w1 v enc dec p := by
  obtain ⟨f, cs, h1, h2, h3⟩ := h
  exact ⟨f, cs, h1, h2, fun x r w' e hp => h3 x r w' (he.trans e) hp⟩
theorem run_enterV {f : FuncId} {cs : Array Value} {xo : Operand} {xs : List Operand} {ts : Array TypeId} {vs : List Value} (he : Ent P f) (hv : ev fr xo = some (.func (.func f) #[] cs)) (hx : evs fr xs = some vs) {a : Act} (k : Knows n fr a) (w : World) :
    (execOp a.eval ⟨dst, .call { callee := .value xo, args := xs.toArray, argTypes := ts }, ty, pos, aft, g⟩).run P w = .ok (.enter f (vs.toArray ++ cs)) w := by
  obtain ⟨fn, c, h1, h2, h3⟩ := he
  have h2' : ¬ fn.name = "runtime.NumGoroutine" := by simpa using h2
  have := k.evs hx
  have hv' := k.ev hv
  simp [execOp, resolve, hv', Deferred.ofValue, invoke, callFunc, h1, h2', h3, this]
theorem Qt.callV {xo : Operand} {xs : List Operand} {ts : Array TypeId} {v : Value} {α β : Type} {enc : α → List Value} {dec : β → Value} {p : α → Option β} (hv : ev fr xo = some v) (hf : FnQ P w0 v enc dec p) (hs : ∀ w, S w → Ext w0 w) {x : α} {r : β} (hr : p x = some r) (hx : evs fr xs = some (enc x)) :
    Qt P n ⟨dst, .call { callee := .value xo, args := xs.toArray, argTypes := ts }, ty, pos, aft, g⟩ fr S (dec r) := fun a w k s => by
  obtain ⟨f, cs, rfl, he, hc⟩ := hf
  rw [run_enterV he hv hx k]
  have := hc x r w (hs w s) hr
  rw [show (enc x).toArray ++ cs.toArray = (enc x ++ cs).toArray by simp]
  exact ⟨Ext.refl w, this⟩
theorem Pu.makeFunc {f : FuncId} {xs : List Operand} {cs : List Value} (hx : evs fr xs = some cs) : Pu P n ⟨dst, .makeFunc (.func f) #[] xs.toArray, ty, pos, aft, g⟩ fr (.func (.func f) #[] cs.toArray) := fun a k w => by
  have := k.evs hx
  simp [execOp, Instr.makeFunc, this]
/-- A struct of numbers: where its fields lie. -/
def eqTy (P : Program) (t : TypeId) : Option (List Nat) := match P.underlying t with
  | some (.struct fs) => if (fs.toList.all fun f => f.name != "_" && (match P.underlying f.type with | some (.int _) => true | _ => false) && tySz P f.type == some (1, false)) && !P.stoodInHeld t && !P.eqGuardType P.depth t then some (fs.toList.map (·.offset)) else none
  | _ => none
def eqAt (xs ys : List Value) : List Nat → Option Bool
  | [] => some true
  | o :: r => match xs[o]?, ys[o]? with
    | some (.int k a), some (.int k' b) => if k = k' then (eqAt xs ys r).map fun q => a == b && q else none
    | _, _ => none
theorem run_eqFields {P : Program} {d : Nat} {xs ys : List Value} : ∀ (fs : List Field) {r : Bool}, (fs.all fun f => f.name != "_" && (match P.underlying f.type with | some (.int _) => true | _ => false) && tySz P f.type == some (1, false)) = true → eqAt xs ys (fs.map (·.offset)) = some r → ∀ w, (Op.eqFields (d + 1) xs.toArray ys.toArray fs).run P w = .ok r w
  | [], r, _, hr, w => by cases hr; simp [Op.eqFields]
  | f :: fs, r, hf, hr, w => by
    simp only [List.all_cons, Bool.and_eq_true, bne_iff_ne, ne_eq, beq_iff_eq] at hf
    obtain ⟨⟨⟨h1, h2⟩, h3⟩, h4⟩ := hf
    simp only [List.map_cons, eqAt] at hr
    cases hx : xs[f.offset]? with
    | none => simp [hx] at hr
    | some x =>
      cases hy : ys[f.offset]? with
      | none => cases x <;> simp [hx, hy] at hr
      | some y =>
        rw [hx, hy] at hr
        cases x <;> cases y <;> simp only [reduceCtorEq] at hr
        rename_i k a k' b
        by_cases hk : k = k'
        · subst hk
          simp only [if_true] at hr
          cases he : eqAt xs ys (fs.map (·.offset)) with
          | none => simp [he] at hr
          | some q =>
            simp only [he, Option.map_some, Option.some.injEq] at hr
            subst hr
            have hu : ∃ k', P.underlying f.type = some (.int k') := by
              split at h2
              · rename_i k' e; exact ⟨k', e⟩
              · cases h2
            obtain ⟨k', hu⟩ := hu
            have hpx : (part f.type xs.toArray f.offset).run P w = .ok (.int k a) w := by
              simp [part, run_isAgg_of h3, hx]
            have hpy : (part f.type ys.toArray f.offset).run P w = .ok (.int k b) w := by
              simp [part, run_isAgg_of h3, hy]
            have ih := run_eqFields (d := d) fs h4 he w
            simp only [Op.eqFields, if_pos (show f.name ≠ "_" from h1), Sem.run_bind, hpx, hpy, Result.andThen_ok, run_equalIn_int w d f.type k k' a b hu, Sem.run_ite, Sem.run_pure, ih]
            by_cases hab : a = b
            · simp [hab]
            · simp [hab]
        · simp [hk] at hr
theorem eqTy_spec {P : Program} {t : TypeId} {offs : List Nat} (h : eqTy P t = some offs) : ∃ fs : Array Field, P.underlying t = some (.struct fs) ∧ fs.toList.map (·.offset) = offs ∧ (fs.toList.all fun f => f.name != "_" && (match P.underlying f.type with | some (.int _) => true | _ => false) && tySz P f.type == some (1, false)) = true ∧ P.stoodInHeld t = false ∧ P.eqGuardType P.depth t = false := by
  unfold eqTy at h
  split at h
  · rename_i fs e
    split at h
    · rename_i hc
      simp only [Bool.and_eq_true, Bool.not_eq_true'] at hc
      cases h
      exact ⟨fs, e, rfl, hc.1.1, hc.1.2, hc.2⟩
    · cases h
  · cases h
theorem Pu.neSt {xt yt : TypeId} {x y : Operand} {xs ys : List Value} {offs : List Nat} {r : Bool} {p : Prop} [Decidable p] (ht : eqTy P xt = some offs) (hx : ev fr x = some (.agg xs.toArray)) (hy : ev fr y = some (.agg ys.toArray)) (hr : eqAt xs ys offs = some r) (he : r = decide p) :
    Pu P n ⟨dst, .binOp .neq xt x y yt, ty, pos, aft, g⟩ fr (.bool (decide (¬ p))) := fun ac kn w => by
  obtain ⟨fs, h1, h2, h3, h4, h5⟩ := eqTy_spec ht
  subst h2; subst he
  have hf : P.fieldsOf xt = fs := by simp [Program.fieldsOf, h1]
  have e := run_eqFields (d := 9998) fs.toList h3 hr w
  have e2 := run_equalIn_agg (P := P) w 9999 xt xs.toArray ys.toArray (by rw [hf]; exact h1) h4
  rw [hf, e] at e2
  simp only [execOp, kn.ev hx, kn.ev hy, Sem.run_bind, Sem.run_pure, run_eqGuard_agg w .neq xt x y xs.toArray ys.toArray h5, Result.andThen_ok, run_neq_struct, e2]
  simp
theorem blk_ext {w w' : World} {b : Nat} {cs : List Value} {e : TypeId} (he : Ext w w') (h : blk b cs e (hpOf w)) : blk b cs e (hpOf w') := he.hp _ _ h
theorem blk_of {w : World} {k b : Nat} {cs : List Value} {e : TypeId} (s : Sat w0 G w) (hk : G[k]? = some (blk b cs e)) : blk b cs e (hpOf w) := (s.getBlk hk).1
theorem Qt.ldX {t e : TypeId} {x : Operand} {b o : Nat} {cs : List Value} {v : Value} (ht : tySz P t = some (1, false)) (hx : ev fr x = some (.pointer (some ⟨b, o, none⟩))) (hb : blk b cs e (hpOf w0)) (hs : ∀ w, S w → Ext w0 w) (hv : cs[o]? = some v) :
    Qt P n ⟨dst, .load t x, ty, pos, aft, g⟩ fr S v := Qt.ld ht hx fun w s => by
  have h := (hs w s).hp _ _ hb
  have h' : w.heap[b]? = some (.cells cs.toArray e (0, 0)) := h
  simp [World.cell?, h', hv]
theorem Qt.ldXA {t sz e : TypeId} {x : Operand} {b o : Nat} {cs us : List Value} (ht : tySz P t = some (sz, true)) (hx : ev fr x = some (.pointer (some ⟨b, o, none⟩))) (hb : blk b cs e (hpOf w0)) (hs : ∀ w, S w → Ext w0 w) (hu : (cs.drop o).take sz = us) (hl : us.length = sz) :
    Qt P n ⟨dst, .load t x, ty, pos, aft, g⟩ fr S (.agg us.toArray) := Qt.ldA ht hx hl fun w s j v hj => by
  subst hu
  have h := (hs w s).hp _ _ hb
  have h' : w.heap[b]? = some (.cells cs.toArray e (0, 0)) := h
  rw [List.getElem?_take] at hj
  split at hj
  · rw [List.getElem?_drop] at hj
    simp [World.cell?, h', hj]
  · cases hj
end
end Go.Vg
set_option linter.unusedVariables false
namespace Go.Vg
theorem bsome {α β : Type} {a : α} {k : α → Option β} : Option.bind (some a) k = k a := rfl
theorem Ok.some {α : Type} {m : Option α} {a : α} (h : m = some a) : Ok m (fun x => x = a) := ⟨a, h, rfl⟩
section
variable {α : Type} [Inhabited α]
theorem take_nextV {s : List α} {i : Int} (h : 0 ≤ i ∧ i < s.length) : s.take (i + 1).toNat = s.take i.toNat ++ [gi s i] := by
  have hl : i.toNat < s.length := by omega
  rw [show (i + 1).toNat = i.toNat + 1 by omega, List.take_succ_eq_append_getElem hl]
  simp [gi, List.getD, List.getElem?_eq_getElem hl]
/-- One by one the same. -/
def eqF [DecidableEq α] (a b : List α) : Option Bool :=
  if ¬ (a.length : Int) = (b.length : Int) then
  some false
  else
  Option.bind (α := Ex (Unit) (Bool)) (loop (σ := Int) (β := Ex (Unit) (Bool)) (fun v3 =>
  if v3 < (a.length : Int) then
  if 0 ≤ v3 ∧ v3 < (a.length : Int) then
  if 0 ≤ v3 ∧ v3 < (b.length : Int) then
  if ¬ (gi a v3) = (gi b v3) then
  some (St.done (Ex.up false))
  else
  if I64 (v3 + 1) then
  some (St.next (v3 + 1))
  else none
  else none
  else none
  else
  some (St.done (Ex.go ()))) 0) fun x => x.then fun _ =>
  some true
theorem eqF_eq [DecidableEq α] {a b : List α} (ha : a.length ≤ 9223372036854775807) : eqF a b = some (decide (a = b)) := by
  unfold eqF
  refine Ok.eq (Ok.ite (fun hn => Ok.ret (decide_eq_false (fun e => hn (by rw [e]))).symm) (fun hn => ?_))
  have hl : a.length = b.length := by omega
  refine Ok.bind (R := fun x => x = if a = b then Ex.go () else Ex.up false) (Ok.loop (fun i : Int => 0 ≤ i ∧ i ≤ a.length ∧ ∀ j : Int, 0 ≤ j → j < i → gi a j = gi b j) (fun i => (a.length - i).toNat) ⟨by omega, by omega, fun j h0 h1 => by omega⟩ (by unfold FUEL; omega) ?_) ?_
  · rintro i ⟨h0, h1, hq⟩
    refine Ok.ite (fun hlt => ?_) (fun hlt => Ok.ret ?_)
    · refine Ok.gd ⟨h0, hlt⟩ (Ok.gd ⟨h0, by omega⟩ (Ok.ite (fun hne => Ok.ret ?_) (fun he => Ok.gd (by unfold I64; omega) (Ok.ret ?_))))
      · show Ex.up false = _
        rw [if_neg (fun e => hne (by rw [e]))]
      · refine ⟨⟨by omega, by omega, fun j j0 j1 => ?_⟩, by omega⟩
        by_cases hj : j = i
        · subst hj; exact Decidable.not_not.1 he
        · exact hq j j0 (by omega)
    · show Ex.go () = _
      rw [if_pos (ext_gi hl fun j j0 j1 => hq j j0 (by omega))]
  · rintro x rfl
    by_cases hab : a = b
    · rw [if_pos hab]; exact Ok.ret (by rw [decide_eq_true hab])
    · rw [if_neg hab]; exact Ok.ret (by rw [decide_eq_false hab])
/-- New memory. -/
def copyF (l : List α) : Option (List α) :=
  Option.bind (α := List α) (loop (σ := List α × Int) (β := List α) (fun (l4, v6) =>
  if v6 < (l.length : Int) then
  if 0 ≤ v6 ∧ v6 < (l.length : Int) then
  if l4.length < 1099511627776 then
  if I64 (v6 + 1) then
  some (St.next ((l4 ++ [(gi l v6)]), (v6 + 1)))
  else none
  else none
  else none
  else
  some (St.done l4)) ([], 0)) fun v2 =>
  some v2
theorem copyF_eq {l : List α} (h : l.length < 1099511627776) : copyF l = some l := by
  unfold copyF
  refine Ok.eq (Ok.bind (R := fun x => x = l) (Ok.loop (fun z : List α × Int => 0 ≤ z.2 ∧ z.2 ≤ l.length ∧ z.1 = l.take z.2.toNat) (fun z => (l.length - z.2).toNat) ⟨by simp, by simp, by simp⟩ (by unfold FUEL; simp; omega) ?_) (fun x hx => Ok.ret hx))
  rintro ⟨m, i⟩ ⟨h0, h1, hq⟩
  try dsimp only at h0 h1 hq ⊢
  subst hq
  refine Ok.ite (fun hlt => ?_) (fun hlt => Ok.ret ?_)
  · refine Ok.gd ⟨h0, hlt⟩ (Ok.gd (by rw [List.length_take]; omega) (Ok.gd (by unfold I64; omega) (Ok.ret ⟨⟨by show 0 ≤ i + 1; omega, by show i + 1 ≤ _; omega, ?_⟩, by show ((l.length : Int) - (i + 1)).toNat < (l.length - i).toNat; omega⟩)))
    exact (take_nextV ⟨h0, hlt⟩).symm
  · show l.take i.toNat = l
    rw [show i.toNat = l.length by omega, List.take_length]
end
section
variable {α : Type}
/-- Each element is written over. -/
def spoilF (x : α) (l : List α) : Option (List α) :=
  loop (σ := Int × List α) (β := List α) (fun (v6, l7) =>
  if v6 < (l.length : Int) then
  if 0 ≤ v6 ∧ v6 < (l.length : Int) then
  if I64 (v6 + 1) then
  some (St.next ((v6 + 1), (si l7 v6 x)))
  else none
  else none
  else
  some (St.done l7)) (0, l)
end
end Go.Vg
set_option linter.unusedVariables false
namespace Go.Vg
/-- A truth value is there, and tells p. -/
def Bo (m : Option Bool) (p : Prop) : Prop := Ok m fun r => (r = true ↔ p)
theorem Bo.of {r : Bool} {p : Prop} (h : r = true ↔ p) : Bo (some r) p := Ok.ret h
theorem Bo.dec {q p : Prop} [Decidable q] (h : q ↔ p) : Bo (some (decide q)) p := Ok.ret (by rw [decide_eq_true_iff]; exact h)
theorem Bo.t {m : Option Bool} {p : Prop} (h : Bo m p) (hp : p) : m = some true := let ⟨r, e, q⟩ := h; by rw [e, q.2 hp]
theorem Bo.f {m : Option Bool} {p : Prop} (h : Bo m p) (hp : ¬ p) : m = some false := by
  obtain ⟨r, e, q⟩ := h
  rw [e]
  cases r with
  | false => rfl
  | true => exact absurd (q.1 rfl) hp
theorem Bo.same {m n : Option Bool} {p : Prop} (h : Bo m p) (k : Bo n p) : m = n := by
  by_cases hp : p
  · rw [h.t hp, k.t hp]
  · rw [h.f hp, k.f hp]
theorem Bo.iff {m : Option Bool} {p q : Prop} (h : Bo m p) (k : p ↔ q) : Bo m q := Ok.mono h fun r e => e.trans k
/-- Over the places from a to n: all are so, or it ends early. -/
theorem scanOk {β : Type} {f : Int → Option (St Int (Ex Unit β))} {a n : Int} (G : Int → Prop) (U : β → Prop) (hn : n - a < 9223372036854775808)
    (step : ∀ v, a ≤ v → v < n → (∀ u, a ≤ u → u < v → G u) → Ok (f v) fun y => match y with | .next s => s = v + 1 ∧ G v | .done (.up r) => U r | .done (.go _) => False)
    (fin : ∀ v, a ≤ v → n ≤ v → f v = some (St.done (Ex.go ()))) : Ok (loop f a) fun x => match x with | .go _ => ∀ u, a ≤ u → u < n → G u | .up r => U r := by
  refine Ok.loop (fun v => a ≤ v ∧ ∀ u, a ≤ u → u < v → u < n → G u) (fun v => (n - v).toNat) ⟨Int.le_refl _, fun u h1 h2 => by omega⟩ (by unfold FUEL; omega) ?_
  rintro v ⟨h1, h2⟩
  by_cases hv : v < n
  · obtain ⟨y, hy, hq⟩ := step v h1 hv (fun u u0 u1 => h2 u u0 u1 (by omega))
    refine ⟨y, hy, ?_⟩
    cases y with
    | next s =>
      obtain ⟨rfl, hg⟩ := hq
      refine ⟨⟨by omega, fun u u0 u1 u2 => ?_⟩, by omega⟩
      by_cases e : u = v
      · subst e; exact hg
      · exact h2 u u0 (by omega) u2
    | done x =>
      cases x with
      | go _ => exact hq.elim
      | up r => exact hq
  · rw [fin v h1 (by omega)]
    exact Ok.ret (fun u u0 u1 => h2 u u0 (by omega) u1)
/-- The same, where a truth value is handed back: false at the first that is not so. -/
theorem scanBo {f : Int → Option (St Int (Ex Unit Bool))} {a n : Int} (G : Int → Prop) (hn : n - a < 9223372036854775808)
    (step : ∀ v, a ≤ v → v < n → (∀ u, a ≤ u → u < v → G u) → Ok (f v) fun y => match y with | .next s => s = v + 1 ∧ G v | .done (.up r) => r = false ∧ ¬ G v | .done (.go _) => False)
    (fin : ∀ v, a ≤ v → n ≤ v → f v = some (St.done (Ex.go ()))) : Bo (Option.bind (loop f a) fun x => x.then fun _ => some true) (∀ u, a ≤ u → u < n → G u) := by
  refine Ok.bind (scanOk G (fun r => r = false ∧ ¬ ∀ u, a ≤ u → u < n → G u) hn (fun v h1 h2 h3 => ?_) fin) (fun x hx => ?_)
  · obtain ⟨y, hy, hq⟩ := step v h1 h2 h3
    refine ⟨y, hy, ?_⟩
    cases y with
    | next s => exact hq
    | done x =>
      cases x with
      | go _ => exact hq
      | up r => exact ⟨hq.1, fun h => hq.2 (h v h1 h2)⟩
  · cases x with
    | go _ => exact Ok.ret ⟨fun _ => hx, fun _ => rfl⟩
    | up r => exact Ok.ret ⟨fun e => (by rw [hx.1] at e; cases e), fun h => absurd h hx.2⟩
theorem gi_mem2 {α : Type} [Inhabited α] {l : List α} {x : α} : x ∈ l ↔ ∃ i : Int, 0 ≤ i ∧ i < l.length ∧ gi l i = x := by
  constructor
  · intro h
    obtain ⟨i, hi, he⟩ := List.mem_iff_getElem.1 h
    exact ⟨i, by omega, by omega, by simp [gi, List.getD, hi, he]⟩
  · rintro ⟨i, h0, h1, rfl⟩
    exact gi_mem ⟨h0, h1⟩
/-- A place in a table of rows of W. -/
theorem xy_inj {W x y : Int} (hx : 0 ≤ x ∧ x < W) : (x + W * y) / W = y ∧ (x + W * y) % W = x := by
  constructor
  · rw [Int.add_mul_ediv_left _ _ (by omega), Int.ediv_eq_zero_of_lt hx.1 hx.2]; omega
  · rw [Int.add_mul_emod_self_left, Int.emod_eq_of_lt hx.1 hx.2]
end Go.Vg
set_option linter.unusedSimpArgs false
set_option linter.unusedVariables false
namespace Go.Vg
open Enc (R)
/-- An array of two numbers. -/
structure Pr2 where
  a : Int
  b : Int
  deriving Inhabited, DecidableEq
instance : Enc Pr2 where
  sz := 2
  R h x cs := cs = [.int .i64 x.a, .int .i64 x.b]
  len := fun e => by rw [e]; rfl
  one := fun e u hu => by
    rw [e] at hu; simp only [List.mem_cons, List.not_mem_nil, or_false] at hu
    rcases hu with rfl | rfl
    · rfl
    · rfl
  mono := fun hl e => e
instance : Flat Pr2 := ⟨fun h => h⟩
section
variable {P : Program} {n : Nat} {fr : Fr} {dst : Option Tmp} {ty : TypeId} {pos : String} {aft : Array Edge} {g : Option (Nat × Bool)} {w0 : World} {G : List Ch}
theorem Pu.indexN {t e : TypeId} {x i : Operand} {len : Nat} {k : IntKind} {j : Int} {xs : List Int} (ht : arTy P t = some (len, e, 1)) (he : tySz P e = some (1, false)) (hx : ev fr x = some (.agg (nums xs).toArray)) (hi : ev fr i = some (.int k j)) (h : 0 ≤ j ∧ j < len ∧ xs.length = len) :
    Pu P n ⟨dst, .index t x i, ty, pos, aft, g⟩ fr (.int .i64 (gi xs j)) := fun a kn w => by
  obtain ⟨h1, inf, h2, hsz⟩ := arTy_spec ht
  have hg := nums_get (L := xs) (j := j) ⟨h.1, by omega⟩
  have hr : (Instr.index t (.agg (nums xs).toArray) (.int k j)).run P w = .ok (.int .i64 (gi xs j)) w := by
    simp [Instr.index, asIntOf, run_underlying h1, run_sizeOf_info h2, h.1, h.2.1, part, run_isAgg_of he, hsz, hg]
  simp only [execOp, kn.ev hx, kn.ev hi, Sem.run_bind, hr, Result.andThen_ok, Sem.run_pure]
theorem Pu.indexN2 {t e : TypeId} {x i : Operand} {len : Nat} {k : IntKind} {j : Int} {xs : List Int} (ht : arTy P t = some (len, e, 2)) (he : tySz P e = some (2, true)) (hx : ev fr x = some (.agg (nums xs).toArray)) (hi : ev fr i = some (.int k j)) (h : 0 ≤ j ∧ j < len ∧ xs.length = len * 2) :
    Pu P n ⟨dst, .index t x i, ty, pos, aft, g⟩ fr (.agg #[.int .i64 (gi xs (2 * j)), .int .i64 (gi xs (2 * j + 1))]) := by
  refine Pu.indexV ht he hx hi ⟨h.1, h.2.1⟩ ?_
  have h1 := nums_get (L := xs) (j := 2 * j) ⟨by omega, by omega⟩
  have h2 := nums_get (L := xs) (j := 2 * j + 1) ⟨by omega, by omega⟩
  rw [show (2 * j).toNat = j.toNat * 2 by omega] at h1
  rw [show (2 * j + 1).toNat = j.toNat * 2 + 1 by omega] at h2
  have hl : (nums xs).length = xs.length := by simp [nums]
  apply Array.toList_inj.1
  rw [Array.toList_extract]
  show List.extract (nums xs) _ _ = _
  rw [List.extract_eq_take_drop, Nat.add_sub_cancel_left]
  apply List.ext_getElem?
  intro q
  match q with
  | 0 => simp [List.getElem?_take, List.getElem?_drop, h1]
  | 1 => simp [List.getElem?_take, List.getElem?_drop, h2]
  | q + 2 => simp [List.getElem?_take]; omega
theorem Qt.ldArO (k : Nat) {t e : TypeId} {x : Operand} {b o : Nat} {ji : Int} {L : List Int} (ht : tySz P t = some (1, false)) (hx : ev fr x = some (.pointer (some ⟨b, o, none⟩))) (ho : o = ji.toNat) (hk : G[k]? = some (blk b (nums L) e)) (hj : 0 ≤ ji ∧ ji < L.length) :
    Qt P n ⟨dst, .load t x, ty, pos, aft, g⟩ fr (Sat w0 G) (.int .i64 (gi L ji)) := by
  subst ho
  exact Qt.ldB k ht hx hk (nums_get hj)
end
end Go.Vg
set_option linter.unusedSimpArgs false
set_option linter.unusedVariables false
namespace Go.Vg
end Go.Vg
set_option linter.unusedSimpArgs false
set_option linter.unusedVariables false
namespace Go.Vg
open Enc (R)
open Go.RowKit (Below)
def tqV (q : Option Addr × Nat) (n : Nat) : Value := .slice q.1 n q.2
/-- A slice of numbers that may begin anywhere in its array. -/
def tq (e : TypeId) (q : Option Addr × Nat) (xs : List Int) : Ch := fun h =>
  xs.length ≤ q.2 ∧ q.2 ≤ maxLen ∧ (q.2 = 0 ∨ ∃ g o c, q.1 = some ⟨g, o, none⟩ ∧ h g = some (.cells c e (0, 0)) ∧ o + q.2 ≤ c.size ∧ ∀ j x, xs[j]? = some x → c[o + j]? = some (.int .i64 x))
section
variable {w0 w : World} {G : List Ch}
theorem RF_nums {h : Hp} : ∀ (xs : List Int), RF h xs (nums xs)
  | [] => rfl
  | x :: xs => ⟨[.int .i64 x], nums xs, rfl, rfl, RF_nums xs⟩
theorem RF_nums_eq {h : Hp} : ∀ {xs : List Int} {cs : List Value}, RF h xs cs → cs = nums xs
  | [], _, e => e
  | x :: xs, _, ⟨c, r, e, hx, hr⟩ => by
    subst e
    have hx : c = [.int .i64 x] := hx
    rw [RF_nums_eq hr, hx]; rfl
theorem nums_len (xs : List Int) : (nums xs).length = xs.length := by simp [nums]
theorem nums_at {xs : List Int} {j : Nat} {v : Value} (h : (nums xs)[j]? = some v) : ∃ x, xs[j]? = some x ∧ v = .int .i64 x := by
  unfold nums at h
  rw [List.getElem?_map, Option.map_eq_some_iff] at h
  obtain ⟨x, hx, rfl⟩ := h
  exact ⟨x, hx, rfl⟩
theorem Sat.getTq {k : Nat} {e : TypeId} {q : Option Addr × Nat} {xs : List Int} (s : Sat w0 G w) (hk : G[k]? = some (tq e q xs)) : R (hpOf w) xs [tqV q xs.length] := by
  obtain ⟨p, ⟨h1, h2, h3⟩, hl, hb⟩ := s.get k hk
  refine ⟨q.1, q.2, rfl, h1, h2, ?_⟩
  rcases h3 with h3 | ⟨g, o, c, e1, hg, hc, ha⟩
  · exact .inl (List.eq_nil_of_length_eq_zero (by omega))
  · refine .inr ⟨g, o, nums xs, e1, RF_nums xs, c, e, (0, 0), hl _ _ hg, fun j v hj => ?_⟩
    obtain ⟨x, hx, rfl⟩ := nums_at hj
    exact ha j x hx
theorem Rd.ofTq (k : Nat) {e : TypeId} {q : Option Addr × Nat} {xs : List Int} (hk : G[k]? = some (tq e q xs)) : Rd (Sat w0 G) xs [tqV q xs.length] := fun w s => s.getTq hk
theorem Sat.tq_some {k : Nat} {e : TypeId} {q : Option Addr × Nat} {xs : List Int} (s : Sat w0 G w) (hk : G[k]? = some (tq e q xs)) (hp : 0 < xs.length) : ∃ b o c, q = (some ⟨b, o, none⟩, c) := by
  obtain ⟨p, ⟨h1, h2, h3⟩, hl, hb⟩ := s.get k hk
  rcases h3 with h3 | ⟨g, o, c, e1, _⟩
  · omega
  · exact ⟨g, o, q.2, by rw [← e1]⟩
theorem Rd.ofTqP (k : Nat) {e : TypeId} {p : Option Addr} {c : Nat} {xs : List Int} (hk : G[k]? = some (tq e (p, c) xs)) : Rd (Sat w0 G) xs [.slice p xs.length c] := Rd.ofTq k hk
def tqOf (q : Option Nat × Nat) : Option Addr × Nat := (q.1.map fun g => ⟨g, 0, none⟩, q.2)
/-- A row is one. -/
theorem Sat.rowTq (k : Nat) {B : Hp} {e : TypeId} {q : Option Nat × Nat} {m : Nat} {xs : List Int} (s : Sat w0 G w) (hk : G[k]? = some (row B e (rowV q m) xs)) : Sat w0 (G.set k (tq e (tqOf q) xs)) w := by
  refine s.weaken k hk _ fun p hp => ?_
  obtain ⟨q1, q2⟩ := q
  rcases hp with ⟨hv, rfl⟩ | ⟨g, cap, cs, sp, hv, h1, h2, h3, h4, h5⟩
  · simp only [rowV, Value.slice.injEq] at hv
    obtain ⟨_, _, hq2⟩ := hv
    have hq2 : q2 = 0 := hq2
    subst hq2
    exact ⟨by simp, by show 0 ≤ maxLen; omega, .inl rfl⟩
  · simp only [rowV, Value.slice.injEq] at hv
    obtain ⟨hv1, hv2, hv3⟩ := hv
    have hv3 : q2 = cap := hv3
    subst hv3
    have hcs := RF_nums_eq h5
    refine ⟨h2, h3, .inr ⟨g, 0, _, hv1, h1, ?_, fun j x hx => ?_⟩⟩
    · have : Enc.sz Int = 1 := rfl
      rw [this] at h4
      simp only [List.size_toArray, h4]
      show 0 + q2 ≤ _
      omega
    · rw [Nat.zero_add, List.getElem?_toArray, hcs]
      have hj := (List.getElem?_eq_some_iff.1 hx).1
      rw [List.getElem?_append_left (by rw [nums_len]; exact hj)]
      unfold nums; rw [List.getElem?_map, hx]; rfl
/-- What is left when the first ones are taken. -/
theorem Sat.tqDrop (k l : Nat) {e : TypeId} {q : Option Addr × Nat} {xs : List Int} (s : Sat w0 G w) (hk : G[k]? = some (tq e q xs)) (hl : l ≤ xs.length) : Sat w0 (G.set k (tq e (cutP q.1 q.2 l 1, q.2 - l) (xs.drop l))) w := by
  refine s.weaken k hk _ fun p hp => ?_
  obtain ⟨h1, h2, h3⟩ := hp
  refine ⟨by rw [List.length_drop]; show _ ≤ q.2 - l; omega, by show q.2 - l ≤ maxLen; omega, ?_⟩
  by_cases hq : q.2 = l
  · exact .inl (by show q.2 - l = 0; omega)
  · rcases h3 with h3 | ⟨g, o, c, e1, hg, hc, ha⟩
    · omega
    · refine .inr ⟨g, o + l, c, ?_, hg, by show o + l + (q.2 - l) ≤ _; omega, fun j x hx => ?_⟩
      · show cutP q.1 q.2 l 1 = _
        unfold cutP
        rw [if_neg hq, e1]
        show some ((⟨g, o, none⟩ : Addr).add (l * 1)) = _
        rw [add_lit, Nat.mul_one]
      · rw [List.getElem?_drop] at hx
        have := ha (l + j) x hx
        rw [show o + l + j = o + (l + j) by omega]; exact this
end
section
variable {P : Program} {n : Nat} {fr : Fr} {dst : Option Tmp} {ty : TypeId} {pos : String} {aft : Array Edge} {g : Option (Nat × Bool)} {S : As} {w0 : World} {G : List Ch} {Q : Po}
theorem Pu.dropTq {t e : TypeId} {x lo : Operand} {by' : Nat} {q : Option Addr × Nat} {k : IntKind} {j : Int} {xs : List Int} (ht : slTy P t = some (e, 1, by')) (hx : ev fr x = some (tqV q xs.length)) (hl : ev fr lo = some (.int k j)) (h : 0 ≤ j ∧ j ≤ (xs.length : Int)) :
    Pu P n ⟨dst, .slice t x (some lo) none none, ty, pos, aft, g⟩ fr (tqV (cutP q.1 q.2 j.toNat 1, q.2 - j.toNat) (xs.drop j.toNat).length) := by
  rw [List.length_drop]
  exact Pu.sliceL ht hx hl h
/-- append(s, x), s a queue. -/
theorem Sd.tqApp (k k1 : Nat) {x y : Operand} {t e e' : TypeId} {by' : Nat} {z : Value} {q : Option Addr × Nat} {xs : List Int} (y0 : Int) {b c : Nat} (hk : G[k]? = some (tq e q xs)) (hk1 : G[k1]? = some (blk b [.int .i64 y0] e'))
    (ht : slTy P t = some (e, 1, by')) (hz : zeroOf P e = some z) (hzs : z.cells.size = 1) (hx : ev fr x = some (tqV q xs.length)) (hy : ev fr y = some (.slice (some ⟨b, 0, none⟩) 1 c))
    (hlt : xs.length < 1099511627776) (hby : by' ≤ 128) :
    Sd P n ⟨dst, .call { callee := .builtin .append, args := #[x, y], argTypes := #[t, t] }, ty, pos, aft, g⟩ fr (Sat w0 G) (fun q' => tqV q' (xs ++ [y0]).length) (fun q' => Sat w0 (G.set k (tq e q' (xs ++ [y0])))) := fun a w kn s => by
  obtain ⟨hu, i, hi, hsz, hby'⟩ := slTy_spec ht
  obtain ⟨i', hi', hz'⟩ := Option.bind_eq_some_iff.1 hz
  rw [hi] at hi'; cases hi'
  subst hby'
  obtain ⟨p0, ⟨h1, h2, h3⟩, hl0, hb0⟩ := s.get k hk
  have hnews : ∀ j u, ([.int .i64 y0] : List Value)[j]? = some u → w.cell? ((⟨b, 0, none⟩ : Addr).add j) = some u := fun j u hj => by
    rw [add_lit]; simp [World.cell?, (s.getBlk hk1).1, hj]
  have h63 : (((xs.length + 1 : Nat)) : Int) ≤ 9223372036854775807 := by omega
  have hlen1 : (xs ++ [y0]).length = xs.length + 1 := by simp
  rw [hlen1]
  -- a new array
  have fresh : ∀ cap, xs.length + 1 ≤ cap → cap ≤ maxLen → Sat w0 (G.set k (tq e (some ⟨w.heap.size, 0, none⟩, cap) (xs ++ [y0]))) (w.drew.alloc (.cells ((nums xs).toArray ++ ([.int .i64 y0] : List Value).toArray ++ Builtin.zeroCells z.cells (cap - (xs.length + 1))) e)) := by
    intro cap hc1 hc2
    refine s.turn k hk _ rfl rfl rfl (by simp) fun p hp hl hb => ?_
    refine ⟨fun b hb' hn => (Below.heap_alloc w.drew _ b (by simpa using hb')), fun b => if b = w.heap.size then some (.cells ((nums xs).toArray ++ ([.int .i64 y0] : List Value).toArray ++ Builtin.zeroCells z.cells (cap - (xs.length + 1))) e (0, 0)) else none, ⟨by rw [hlen1]; exact hc1, hc2, .inr ⟨w.heap.size, 0, _, rfl, if_pos rfl, ?_, fun j x hx => ?_⟩⟩, fun b o hbo => ?_⟩
    · simp only [Array.size_append, List.size_toArray, nums_len, List.length_cons, List.length_nil, size_zeroCells, hzs]
      show 0 + cap ≤ _
      omega
    · have hj : j < xs.length + 1 := by have := (List.getElem?_eq_some_iff.1 hx).1; simpa using this
      rw [Nat.zero_add, Array.getElem?_append_left (by simp [nums_len]; omega)]
      have e1 : (nums xs).toArray ++ ([.int .i64 y0] : List Value).toArray = (nums (xs ++ [y0])).toArray := by simp [nums]
      rw [e1, List.getElem?_toArray]
      unfold nums; rw [List.getElem?_map, hx]; rfl
    · dsimp only at hbo
      split at hbo
      · rename_i hbw
        subst hbw; cases hbo
        exact ⟨.inr (Nat.le_refl _), heap_alloc_new w.drew _⟩
      · cases hbo
  have fin : ∀ v' w' (q' : Option Addr × Nat), (Builtin.append_ #[t, t] ty #[tqV q xs.length, .slice (some ⟨b, 0, none⟩) 1 c]).run P w = .ok v' w' → v' = tqV q' (xs.length + 1) → Sat w0 (G.set k (tq e q' (xs ++ [y0]))) w' →
      solidRes P (fun q' => tqV q' (xs.length + 1)) (fun q' => Sat w0 (G.set k (tq e q' (xs ++ [y0])))) ((execOp a.eval ⟨dst, .call { callee := .builtin .append, args := #[x, y], argTypes := #[t, t] }, ty, pos, aft, g⟩).run P w) := by
    intro v' w' q' hr hv hs
    rw [run_builtin_append kn hx hy hr]
    exact ⟨q', hv, hs⟩
  by_cases hroom : xs.length + 1 ≤ q.2
  · rcases h3 with h3 | ⟨gg, o, cells, e1, hg, hc, ha⟩
    · omega
    · have hwg := hl0 _ _ hg
      have hst := run_storeCells_at (P := P) gg (o + xs.length) e [.int .i64 y0] 0 cells w hwg (by simp; omega) (by simp [Value.oneCell'])
      simp only [Nat.add_zero] at hst
      have hfc := run_firstCells_some (P := P) w i.size 1 ⟨b, 0, none⟩ 1 c [.int .i64 y0] (by rw [hsz]; rfl) hnews
      have hrun : (Builtin.append_ #[t, t] ty #[tqV q xs.length, .slice (some ⟨b, 0, none⟩) 1 c]).run P w = .ok (tqV q (xs.length + 1)) (w.setRow gg (cells.toList.take (o + xs.length) ++ [Value.int .i64 y0] ++ cells.toList.drop (o + xs.length + 1)).toArray) := by
        rw [hsz] at hfc
        simp [tqV, Builtin.append_, run_underlying hu, sizeOf, typeInfo, hi, Builtin.lenOf, hroom, hfc, hsz, add_lit, e1, hst, Result.andThen]
      refine fin _ _ q hrun rfl ?_
      refine s.turn k hk _ rfl rfl rfl (by simp) fun p hp hl hb => ?_
      obtain ⟨_, _, h3'⟩ := hp
      rcases h3' with h3' | ⟨gg', o', cells', e1', hg', hc', ha'⟩
      · omega
      rw [e1] at e1'
      obtain ⟨rfl, rfl⟩ : gg = gg' ∧ o = o' := by simpa using e1'
      obtain rfl : cells = cells' := by
        have h1 := hl _ _ hg'
        have h2 : w.heap[gg]? = some (.cells cells e (0, 0)) := hwg
        have h3 : w.heap[gg]? = some (.cells cells' e (0, 0)) := h1
        rw [h2] at h3
        simpa using h3
      refine ⟨fun b hb' hn => setRow_other w gg b _ (fun e' => by rw [e', hg'] at hn; cases hn), fun b => if b = gg then some (.cells (cells.toList.take (o + xs.length) ++ [Value.int .i64 y0] ++ cells.toList.drop (o + xs.length + 1)).toArray e (0, 0)) else none, ⟨by rw [hlen1]; exact hroom, h2, .inr ⟨gg, o, _, e1, if_pos rfl, ?_, fun j x hx => ?_⟩⟩, fun b o' hbo => ?_⟩
      · simp only [List.size_toArray, List.length_append, List.length_take, List.length_drop, List.length_cons, List.length_nil, Array.length_toList]
        omega
      · have hj : j < xs.length + 1 := by have := (List.getElem?_eq_some_iff.1 hx).1; simpa using this
        have htl : (cells.toList.take (o + xs.length)).length = o + xs.length := by rw [List.length_take]; exact Nat.min_eq_left (by have : cells.toList.length = cells.size := Array.length_toList; omega)
        rw [List.getElem?_toArray]
        by_cases hjl : j < xs.length
        · rw [List.append_assoc, List.getElem?_append_left (by omega), List.getElem?_take_of_lt (by omega), Array.getElem?_toList]
          rw [List.getElem?_append_left hjl] at hx
          exact ha j x hx
        · have hje : j = xs.length := by omega
          subst hje
          rw [List.append_assoc, List.getElem?_append_right (by omega), htl, Nat.sub_self]
          simp at hx
          subst hx; rfl
      · dsimp only at hbo
        split at hbo
        · rename_i hbg; subst hbg; cases hbo
          exact ⟨.inl (by rw [hg']; simp), setRow_heap w b _ _ e (0, 0) hwg⟩
        · cases hbo
  · have hge := fun cap => grownCap_ge w (xs.length + 1) cap e
    have hle := fun cap => grownCap_le_maxLen w (xs.length + 1) cap e (by unfold maxLen; omega)
    have hbytes : (xs.length + 1) * i.bytes ≤ 140737488355328 := by
      have := Nat.mul_le_mul (show xs.length + 1 ≤ 1099511627776 by omega) hby; omega
    have holds : ∀ (A : Addr), q.1 = some A → ∀ j u, (nums xs)[j]? = some u → w.cell? (A.add j) = some u := fun A hA j u hj => by
      obtain ⟨x, hx, rfl⟩ := nums_at hj
      rcases h3 with h3 | ⟨gg, o, cells, e1, hg, hc, ha⟩
      · have := (List.getElem?_eq_some_iff.1 hx).1; omega
      · rw [hA] at e1; cases e1
        have hw : w.heap[gg]? = some (.cells cells e (0, 0)) := hl0 _ _ hg
        rw [add_lit]
        simp [World.cell?, hw, ha j x hx]
    cases hq : q.1 with
    | none =>
      have hx0 : xs = [] := by
        rcases h3 with h3 | ⟨gg, o, cells, e1, _⟩
        · exact List.eq_nil_of_length_eq_zero (by omega)
        · rw [hq] at e1; cases e1
      have hq2 : q.2 = 0 := by
        rcases h3 with h3 | ⟨gg, o, cells, e1, _⟩
        · exact h3
        · rw [hq] at e1; cases e1
      subst hx0
      have hr := run_append_nil (P := P) w t ty e i z hu hi hz' ⟨b, 0, none⟩ 1 c [.int .i64 y0] (by rw [hsz]; rfl) hnews (by omega) (by omega) (by simp only [List.length_nil, Nat.zero_add] at hbytes; omega)
      have hf := fresh (grownCap w 1 0 e) (by have := hge 0; simpa using this) (by have := hle 0; simpa using this)
      refine fin _ _ (some ⟨w.heap.size, 0, none⟩, grownCap w 1 0 e) (by unfold tqV; rw [hq, hq2]; exact hr) rfl ?_
      simpa [nums] using hf
    | some A =>
      have hr := run_append_grow (P := P) w t ty e i z hu hi hz' A xs.length q.2 (nums xs) (by rw [nums_len, hsz, Nat.mul_one]) (holds A hq) ⟨b, 0, none⟩ 1 c [.int .i64 y0] (by rw [hsz]; rfl) hnews (by omega) h63 (growslice_fits (by omega) hbytes)
      exact fin _ _ (some ⟨w.heap.size, 0, none⟩, grownCap w (xs.length + 1) q.2 e) (by unfold tqV; rw [hq]; exact hr) rfl (fresh _ (hge _) (hle _))
end
end Go.Vg
set_option linter.unusedSimpArgs false
set_option linter.unusedVariables false
namespace Go.Vg
open Go.RowKit (Below)
open Enc (R)

/-- Elements that own memory. -/
class Deep (α : Type) [Enc α] where
  D : Hp → α → List Value → Prop
  toR : ∀ {h x c}, D h x c → R h x c
  mono : ∀ {h h' x c}, h.le h' → D h x c → D h' x c

section
variable {α : Type} [Enc α] [Deep α]
def DRF : Hp → List α → List Value → Prop
  | _, [], cs => cs = []
  | h, x :: xs, cs => ∃ c r p q, cs = c ++ r ∧ Deep.D p x c ∧ DRF q xs r ∧ (∀ b, p b = none ∨ q b = none) ∧ Hp.le p h ∧ Hp.le q h
theorem DRF.mono {h h' : Hp} (hl : h.le h') : ∀ {xs : List α} {cs : List Value}, DRF h xs cs → DRF h' xs cs
  | [], _, e => e
  | _ :: _, _, ⟨c, r, p, q, e, a, b, d, l1, l2⟩ => ⟨c, r, p, q, e, a, b, d, Hp.le_trans l1 hl, Hp.le_trans l2 hl⟩
theorem DRF.toRF {h : Hp} : ∀ {xs : List α} {cs : List Value}, DRF h xs cs → RF h xs cs
  | [], _, e => e
  | _ :: _, _, ⟨c, r, p, q, e, a, b, d, l1, l2⟩ => ⟨c, r, e, Enc.mono l1 (Deep.toR a), (DRF.toRF b).mono l2⟩
theorem DRF.append {q : Hp} {ys : List α} {ds : List Value} (hy : DRF q ys ds) : ∀ {xs : List α} {cs : List Value} {p r : Hp}, DRF p xs cs → (∀ b, p b = none ∨ q b = none) → p.le r → q.le r → DRF r (xs ++ ys) (cs ++ ds)
  | [], _, p, r, e, _, _, l => by rw [show _ = [] from e]; exact hy.mono l
  | x :: xs, _, p, r, ⟨c, t, p1, q1, e, a, b, d, l1, l2⟩, ha, hp, hq => by
    subst e
    have hu1 : q1.le (q1.over q) := Hp.le_over q1 q
    have hu2 : q.le (q1.over q) := fun k o ho => by
      unfold Hp.over
      cases hk : q1 k with
      | none => exact ho
      | some o' =>
        have h1 := l2 k o' hk
        rcases ha k with h | h
        · rw [h] at h1; cases h1
        · rw [h] at ho; cases ho
    have ih := DRF.append (r := q1.over q) hy b (fun k => by
      rcases ha k with h | h
      · cases hk : q1 k with
        | none => exact .inl rfl
        | some o => have := l2 k o hk; rw [h] at this; cases this
      · exact .inr h) hu1 hu2
    refine ⟨c, t ++ ds, p1, q1.over q, by simp, a, ih, fun k => ?_, Hp.le_trans l1 hp, Hp.over_le (Hp.le_trans l2 hp) hq⟩
    rcases d k with h | h
    · exact .inl h
    · cases hk : p1 k with
      | none => exact .inl rfl
      | some o =>
        have h1 := l1 k o hk
        refine .inr ?_
        unfold Hp.over
        rw [h]
        rcases ha k with h2 | h2
        · rw [h2] at h1; cases h1
        · exact h2
/-- An element turned. -/
theorem DRF.set {h : Hp} : ∀ {xs : List α} {cs : List Value} {i : Nat} {x x1 : α} (f s : Nat) {us : List Value}, DRF h xs cs → xs[i]? = some x → us.length = s → f + s ≤ Enc.sz α → (∀ p c, Deep.D p x c → Deep.D p x1 (c.take f ++ us ++ c.drop (f + s))) →
    DRF h (xs.set i x1) (cs.take (i * Enc.sz α + f) ++ us ++ cs.drop (i * Enc.sz α + f + s))
  | [], _, i, x, x1, f, s, us, _, hi, _, _, _ => by simp at hi
  | y :: xs, _, 0, x, x1, f, s, us, ⟨c, r, p, q, e, a, b, d, l1, l2⟩, hi, hus, hf, hn => by
    simp at hi; subst hi; subst e
    have hc : c.length = Enc.sz α := Enc.len (Deep.toR a)
    refine ⟨_, r, p, q, ?_, hn p c a, b, d, l1, l2⟩
    rw [Nat.zero_mul, Nat.zero_add, List.take_append_of_le_length (by omega), List.drop_append_of_le_length (by omega), List.append_assoc]
    simp
  | y :: xs, _, i + 1, x, x1, f, s, us, ⟨c, r, p, q, e, a, b, d, l1, l2⟩, hi, hus, hf, hn => by
    subst e
    have hc : c.length = Enc.sz α := Enc.len (Deep.toR a)
    have ih := DRF.set (x := x) (x1 := x1) f s b (i := i) (by simpa using hi) hus hf hn
    refine ⟨c, _, p, q, ?_, a, ih, d, l1, l2⟩
    have e1 : (i + 1) * Enc.sz α + f = c.length + (i * Enc.sz α + f) := by rw [hc, Nat.add_mul]; omega
    have e2 : (i + 1) * Enc.sz α + f + s = c.length + (i * Enc.sz α + f + s) := by rw [hc, Nat.add_mul]; omega
    rw [e2, e1, List.take_append, List.drop_append, Nat.add_sub_cancel_left, Nat.add_sub_cancel_left, List.take_of_length_le (by omega), List.drop_of_length_le (by omega)]
    simp
end
/-- Elements that are read beside what the row owns. -/
def FB {α : Type} [Enc α] (B : Hp) : Hp → List α → List Value → Prop := fun h xs cs => RF (h.over B) xs cs
/-- Elements that are read in memory that the row's own part holds. -/
def FH {α : Type} [Enc α] (H : Hp) : Hp → List α → List Value → Prop := fun h xs cs => H.le h ∧ RF h xs cs

class PhM {α : Type} [Enc α] (w0 : World) (Φ : Hp → List α → List Value → Prop) : Prop where
  mono : ∀ {h h' : Hp} {xs : List α} {cs : List Value}, h.le h' → (∀ b o, h' b = some o → w0.heap.size ≤ b) → Φ h xs cs → Φ h' xs cs
class Ph {α : Type} [Enc α] (w0 : World) (Φ : Hp → List α → List Value → Prop) : Prop extends PhM w0 Φ where
  rd : ∀ {w : World} {h : Hp} {xs : List α} {cs : List Value}, Ext w0 w → h.le (hpOf w) → Φ h xs cs → RF (hpOf w) xs cs
instance {α : Type} [Enc α] [Deep α] {w0 : World} : Ph w0 (DRF (α := α)) := { mono := fun hl _ d => d.mono hl, rd := fun _ hl d => d.toRF.mono hl }
instance {α : Type} [Enc α] {w0 : World} : Ph w0 (FB (α := α) (hpOf w0)) :=
  { mono := fun hl hb d => RF.mono (Hp.over_mono' hl fun b o e => by
      have h2 := lt_of_hp e
      rename_i h h' xs cs
      cases hk : h' b with
      | none => rfl
      | some o' => have h1 := hb b o' hk; omega) d, rd := fun he hl d => RF.mono (Hp.over_le hl he.hp) d }
instance {α : Type} [Enc α] {w0 : World} {H : Hp} : Ph w0 (FH (α := α) H) := { mono := fun hl _ d => ⟨Hp.le_trans d.1 hl, d.2.mono hl⟩, rd := fun _ hl d => d.2.mono hl }

def rowG {α : Type} [Enc α] (Φ : Hp → List α → List Value → Prop) (e : TypeId) (v : Value) (xs : List α) : Ch := fun h =>
  (v = .slice none 0 0 ∧ xs = [] ∧ Φ h [] []) ∨
  ∃ g cap cs sp, v = .slice (some ⟨g, 0, none⟩) xs.length cap ∧ h g = some (.cells (cs ++ sp).toArray e (0, 0)) ∧ xs.length ≤ cap ∧ cap ≤ maxLen ∧ (cs ++ sp).length = cap * Enc.sz α ∧ Φ (h.off g) xs cs
abbrev drow {α : Type} [Enc α] [Deep α] (e : TypeId) (v : Value) (xs : List α) : Ch := rowG DRF e v xs

theorem RFrow {α : Type} [Enc α] {h : Hp} {g cap : Nat} {cs sp : List Value} {e : TypeId} {xs : List α} (h2 : h g = some (.cells (cs ++ sp).toArray e (0, 0))) (h3 : xs.length ≤ cap) (h4 : cap ≤ maxLen) (h6 : RF h xs cs) : R h xs [.slice (some ⟨g, 0, none⟩) xs.length cap] :=
  ⟨_, cap, rfl, h3, h4, .inr ⟨g, 0, cs, rfl, h6, ⟨_, e, _, h2, fun j v hj => by
    rw [Nat.zero_add, List.getElem?_toArray, List.getElem?_append_left (List.getElem?_eq_some_iff.1 hj).1]
    exact hj⟩⟩⟩
theorem row_R {α : Type} [Enc α] {e : TypeId} {v : Value} {xs : List α} {h : Hp} : row nilH e v xs h → R h xs [v]
  | .inl ⟨h1, h2⟩ => by subst h1; subst h2; exact ⟨none, 0, rfl, by simp, by simp, .inl rfl⟩
  | .inr ⟨g, cap, cs, sp, h1, h2, h3, h4, h5, h6⟩ => by subst h1; exact RFrow h2 h3 h4 (h6.mono (Hp.over_le (Hp.off_le _ _) (nilH_le _)))
section
variable {w0 w : World} {G : List Ch} {α : Type} [Enc α] {Φ : Hp → List α → List Value → Prop}
/-! ### What stands still -/
def fz (h : Hp) : Ch := fun p => p = h
def Held (S : As) (H : Hp) : Prop := ∀ w, S w → H.le (hpOf w)
theorem Held.base : Held (Sat w0 G) (hpOf w0) := fun w s => s.ext.hp
theorem Held.fz {h : Hp} (k : Nat) (hk : G[k]? = some (fz h)) : Held (Sat w0 G) h := fun w s => by
  obtain ⟨p, hp, hl, _⟩ := s.get k hk
  rw [← show p = h from hp]; exact hl
theorem Held.over {S : As} {A B : Hp} (a : Held S A) (b : Held S B) : Held S (A.over B) := fun w s => Hp.over_le (a w s) (b w s)
theorem Sat.freeze (k : Nat) {C : Ch} (hk : G[k]? = some C) (s : Sat w0 G w) : ∃ h, C h ∧ Sat w0 (G.set k (fz h)) w := by
  obtain ⟨h1, own, h2⟩ := s
  have hli : k < G.length := (List.getElem?_eq_some_iff.1 hk).1
  obtain ⟨p, hp, hb⟩ := h2 k C hk
  refine ⟨p, hp, h1, own, fun j D hj => ?_⟩
  by_cases hjk : k = j
  · subst hjk
    rw [List.getElem?_set_self hli] at hj
    exact ⟨p, by have := Option.some.inj hj; subst this; rfl, hb⟩
  · rw [List.getElem?_set_ne hjk] at hj
    exact h2 j D hj
theorem Rd.held {S : As} {H : Hp} (hh : Held S H) {β : Type} [Enc β] {x : β} {cs : List Value} (hr : R H x cs) : Rd S x cs := fun w s => Enc.mono (hh w s) hr
theorem Rd.ofFz {h : Hp} (k : Nat) (hk : G[k]? = some (fz h)) {β : Type} [Enc β] {x : β} {cs : List Value} (hr : R h x cs) : Rd (Sat w0 G) x cs := Rd.held (Held.fz k hk) hr
end
section
variable {P : Program} {n : Nat} {fr : Fr} {S : As} {Q : Po}
end

/-- A plain fact as a chunk. -/
def pc (p : Prop) : Ch := fun _ => p
/-! ### Two chunks for one -/
theorem Sat.merge2 {w0 w : World} {G : List Ch} {A B : Ch} (k j : Nat) (hk : G[k]? = some A) (hj : G[j]? = some B) (hne : k ≠ j) (C : Ch) (hc : ∀ p q r : Hp, A p → B q → (∀ b, p b = none ∨ q b = none) → p.le r → q.le r → C r) (s : Sat w0 G w) :
    Sat w0 ((G.set k C).set j dead) w := by
  obtain ⟨h1, own, h2⟩ := s
  obtain ⟨p, hp, hb⟩ := h2 k A hk
  obtain ⟨q, hq, hbq⟩ := h2 j B hj
  have hkl := (List.getElem?_eq_some_iff.1 hk).1
  have hjl := (List.getElem?_eq_some_iff.1 hj).1
  refine ⟨h1, fun b => if own b = j then k else own b, fun i E hi => ?_⟩
  have hd : ∀ b, p b = none ∨ q b = none := fun b => by
    cases e : p b with
    | none => exact .inl rfl
    | some o =>
      cases e' : q b with
      | none => exact .inr rfl
      | some o' => have h3 := (hb b o e).2.1; have h4 := (hbq b o' e').2.1; omega
  by_cases hij : j = i
  · subst hij
    rw [List.getElem?_set_self (by simpa using hjl)] at hi
    exact ⟨fun _ => none, by rw [← Option.some.inj hi]; trivial, fun b o e => by cases e⟩
  · rw [List.getElem?_set_ne hij] at hi
    by_cases hik : k = i
    · subst hik
      rw [List.getElem?_set_self hkl] at hi
      have := (Option.some.inj hi).symm; subst this
      refine ⟨p.over q, hc p q _ hp hq hd (Hp.le_over p q) (fun b o e => ?_), fun b o e => ?_⟩
      · unfold Hp.over
        rcases hd b with h | h
        · rw [h]; exact e
        · rw [h] at e; cases e
      · unfold Hp.over at e
        split at e
        · rename_i o' e'; cases e
          obtain ⟨a1, a2, a3⟩ := hb b _ e'
          exact ⟨a1, by simp [a2, hne], a3⟩
        · obtain ⟨a1, a2, a3⟩ := hbq b _ e
          exact ⟨a1, by simp [a2], a3⟩
    · rw [List.getElem?_set_ne hik] at hi
      obtain ⟨u, hu, hbu⟩ := h2 i E hi
      refine ⟨u, hu, fun b o e => ?_⟩
      obtain ⟨a1, a2, a3⟩ := hbu b o e
      exact ⟨a1, by show (if own b = j then k else own b) = i; rw [a2, if_neg (fun h => hij h.symm)], a3⟩
/-! ### append -/
section
variable {P : Program} {n : Nat} {fr : Fr} {dst : Option Tmp} {ty : TypeId} {pos : String} {aft : Array Edge} {g : Option (Nat × Bool)} {S : As} {w0 : World} {G : List Ch}
def rowAndG {α : Type} [Enc α] (Φ : Hp → List α → List Value → Prop) (e : TypeId) (v : Value) (xs ys : List α) (news : List Value) : Ch := fun h =>
  (v = .slice none 0 0 ∧ xs = [] ∧ Φ h ys news) ∨
  ∃ g cap cs sp, v = .slice (some ⟨g, 0, none⟩) xs.length cap ∧ h g = some (.cells (cs ++ sp).toArray e (0, 0)) ∧ xs.length ≤ cap ∧ cap ≤ maxLen ∧ (cs ++ sp).length = cap * Enc.sz α ∧ cs.length = xs.length * Enc.sz α ∧ Φ (h.off g) (xs ++ ys) (cs ++ news)
/-- A row and what some new elements own. -/
def dand {α : Type} [Enc α] [Deep α] (e : TypeId) (v : Value) (xs ys : List α) (news : List Value) : Ch := star (drow e v xs) (fun q => DRF q ys news)
end
/-! ### Elements that hold slices -/
section
variable {P : Program} {n : Nat} {fr : Fr} {o : Oper}
theorem Sd.pre {S S0 : As} {ι : Type} {val : ι → Value} {S' : ι → As} (hs : ∀ w, S w → S0 w) (h : Sd P n o fr S0 val S') : Sd P n o fr S val S' := fun a w k s => h a w k (hs w s)
end
section
variable {P : Program} {n : Nat} {fr : Fr} {dst : Option Tmp} {ty : TypeId} {pos : String} {aft : Array Edge} {g : Option (Nat × Bool)} {S : As} {w0 : World} {G : List Ch}
/-- An element's own cells, where they lie. -/
theorem R_el {α : Type} [Enc α] [Inhabited α] {H : Hp} {xs : List α} {b o len cap : Nat} (h : R H xs [.slice (some ⟨b, o, none⟩) len cap]) {ji : Int} (hj : 0 ≤ ji ∧ ji < (xs.length : Int)) :
    ∃ c, R H (gi xs ji) c ∧ AtH H b (o + ji.toNat * Enc.sz α) c := by
  obtain ⟨p', cap', e, s⟩ := h
  simp only [List.cons.injEq, Value.slice.injEq, and_true] at e
  obtain ⟨rfl, rfl, rfl⟩ := e
  rcases s.2.2 with rfl | ⟨b', o', cs, hp, hr, ha⟩
  · simp at hj; omega
  · simp only [Option.some.injEq, Addr.mk.injEq, and_true] at hp
    obtain ⟨rfl, rfl⟩ := hp
    obtain ⟨c, hc, hg⟩ := hr.get (gi_get hj)
    obtain ⟨d, t, f, e1, e2⟩ := ha
    exact ⟨c, hc, d, t, f, e1, fun j v hv => by rw [Nat.add_assoc]; exact e2 _ _ (hg j v hv)⟩
theorem Qt.ldZ {t s : TypeId} {x : Operand} {b o : Nat} {cs : List Value} {H : Hp} (ht : tySz P t = some (s, true)) (hx : ev fr x = some (.pointer (some ⟨b, o, none⟩))) (ha : AtH H b o cs) (hh : Held S H) (hl : cs.length = s) :
    Qt P n ⟨dst, .load t x, ty, pos, aft, g⟩ fr S (.agg cs.toArray) := Qt.ldA ht hx hl fun w s j v hj => (ha.mono (hh w s)).cell hj
end
section
variable {P : Program} {n : Nat} {fr : Fr} {w0 : World} {G : List Ch}
end
/-! ### Function values over what holds slices -/
/-- A function value that reckons p of whatever is told so, in whatever world from w on. -/
def FnR (P : Program) (w : World) (v : Value) {α β : Type} (Rel : α → List Value → Prop) (dec : β → Value) (p : α → Option β) : Prop :=
  ∃ (f : FuncId) (cs : List Value), v = .func (.func f) #[] cs.toArray ∧ Ent P f ∧ ∀ x c r w', Rel x c → Ext w w' → p x = some r → Calls P f (c ++ cs).toArray w' fun e w'' => e = .returned (dec r) ∧ Ext w' w''
section
variable {P : Program} {n : Nat} {fr : Fr} {dst : Option Tmp} {ty : TypeId} {pos : String} {aft : Array Edge} {g : Option (Nat × Bool)} {S : As} {w0 : World} {G : List Ch}
theorem FnR.ext {w w1 : World} {v : Value} {α β : Type} {Rel : α → List Value → Prop} {dec : β → Value} {p : α → Option β} (he : Ext w w1) (h : FnR P w v Rel dec p) : FnR P w1 v Rel dec p := by
  obtain ⟨f, cs, h1, h2, h3⟩ := h
  exact ⟨f, cs, h1, h2, fun x c r w' hc e hp => h3 x c r w' hc (he.trans e) hp⟩
end
end Go.Vg
set_option linter.unusedSimpArgs false
set_option linter.unusedVariables false
namespace Go.Vg
open Enc (R)

structure Raw3 where
  a : Value
  b : Value
  c : Value
  ok : (a.oneCell' && (b.oneCell' && c.oneCell')) = true
instance : Inhabited Raw3 := ⟨⟨.bool false, .bool false, .bool false, rfl⟩⟩
def Raw3.cells (x : Raw3) : List Value := [x.a, x.b, x.c]
instance : Enc Raw3 where
  sz := 3
  R _ x cs := cs = [x.a, x.b, x.c]
  len := fun e => by rw [e]; rfl
  one := fun {h x cs} e u hu => by
    have := x.ok
    simp only [Bool.and_eq_true] at this
    rw [e] at hu; simp only [List.mem_cons, List.not_mem_nil, or_false] at hu
    rcases hu with rfl | rfl | rfl
    · exact this.1
    · exact this.2.1
    · exact this.2.2
  mono := fun _ e => e
instance : Flat Raw3 := ⟨fun h => h⟩

section
variable {α : Type} [Enc α] [Deep α]
def DZ : Hp → List (α × Raw3) → Prop
  | _, [] => True
  | h, z :: zs => ∃ p q, Deep.D p z.1 z.2.cells ∧ DZ q zs ∧ (∀ b, p b = none ∨ q b = none) ∧ Hp.le p h ∧ Hp.le q h
abbrev inn (zs : List (α × Raw3)) : Ch := fun p => DZ p zs
theorem DZ.mono {h h' : Hp} (hl : h.le h') : ∀ {zs : List (α × Raw3)}, DZ h zs → DZ h' zs
  | [], _ => trivial
  | _ :: _, ⟨p, q, a, b, d, l1, l2⟩ => ⟨p, q, a, b, d, Hp.le_trans l1 hl, Hp.le_trans l2 hl⟩
theorem apart_le {p p' q : Hp} (hl : p.le p') (h : ∀ b, p' b = none ∨ q b = none) : ∀ b, p b = none ∨ q b = none := fun b => by
  rcases h b with h | h
  · cases hk : p b with
    | none => exact .inl rfl
    | some o => have := hl b o hk; rw [h] at this; cases this
  · exact .inr h
theorem le_over_r {p q : Hp} (h : ∀ b, p b = none ∨ q b = none) : q.le (p.over q) := fun b o e => by
  unfold Hp.over
  rcases h b with h | h
  · rw [h]; exact e
  · rw [h] at e; cases e
theorem apart_over {p q r : Hp} (h1 : ∀ b, p b = none ∨ q b = none) (h2 : ∀ b, p b = none ∨ r b = none) : ∀ b, p b = none ∨ (q.over r) b = none := fun b => by
  rcases h1 b with h | h
  · exact .inl h
  · rcases h2 b with k | k
    · exact .inl k
    · exact .inr (by unfold Hp.over; rw [h]; exact k)
theorem DZ.sub {zs zs' : List (α × Raw3)} (hs : zs'.Sublist zs) : ∀ {h : Hp}, DZ h zs → DZ h zs' := by
  induction hs with
  | slnil => exact fun h => h
  | cons z _ ih => exact fun ⟨p, q, a, b, d, l1, l2⟩ => (ih b).mono l2
  | cons_cons z _ ih => exact fun ⟨p, q, a, b, d, l1, l2⟩ => ⟨p, q, a, ih b, d, l1, l2⟩
theorem DZ.append {q : Hp} {ys : List (α × Raw3)} (hy : DZ q ys) : ∀ {xs : List (α × Raw3)} {p r : Hp}, DZ p xs → (∀ b, p b = none ∨ q b = none) → p.le r → q.le r → DZ r (xs ++ ys)
  | [], p, r, _, _, _, l => hy.mono l
  | x :: xs, p, r, ⟨p1, q1, a, b, d, l1, l2⟩, ha, hp, hq => by
    have h1 := apart_le l2 ha
    have h2 := apart_le l1 ha
    exact ⟨p1, q1.over q, a, DZ.append hy b h1 (Hp.le_over q1 q) (le_over_r h1), apart_over d h2, Hp.le_trans l1 hp, Hp.over_le (Hp.le_trans l2 hp) hq⟩
end

/-! ### Chunks -/
section
variable {w0 w : World} {G : List Ch}
variable {α : Type} [Enc α] [Deep α]
end
/-! ### A slice of one's own that may begin anywhere in its array; arrays of three -/
def osl {α : Type} [Enc α] (e : TypeId) (v : Value) (xs : List α) : Ch := fun h =>
  ∃ p cap, v = .slice p xs.length cap ∧ xs.length ≤ cap ∧ cap ≤ maxLen ∧ (xs = [] ∨ ∃ b o c cs, p = some ⟨b, o, none⟩ ∧ h b = some (.cells c e (0, 0)) ∧ o + xs.length * Enc.sz α ≤ c.size ∧ RF nilH xs cs ∧ ∀ j v, cs[j]? = some v → c[o + j]? = some v)
section
variable {w0 w : World} {G : List Ch} {α : Type} [Enc α]
end
structure Pr3 where
  a : Int
  b : Int
  c : Int
  deriving Inhabited, DecidableEq
instance : Enc Pr3 where
  sz := 3
  R _ x cs := cs = [.int .i64 x.a, .int .i64 x.b, .int .i64 x.c]
  len := fun h => by rw [h]; rfl
  one := fun h u hu => by rw [h] at hu; simp only [List.mem_cons, List.not_mem_nil, or_false] at hu; rcases hu with rfl | rfl | rfl <;> rfl
  mono := fun _ h => h
instance : Flat Pr3 := ⟨fun h => h⟩
section
variable {P : Program} {n : Nat} {fr : Fr} {dst : Option Tmp} {ty : TypeId} {pos : String} {aft : Array Edge} {g : Option (Nat × Bool)}
end
end Go.Vg
set_option linter.unusedSimpArgs false
set_option linter.unusedVariables false
namespace Go.Vg
open Go.RowKit (Below)
open Enc (R)
structure RawN (n : Nat) where
  c : List Value
  hl : c.length = n
  h1 : ∀ u ∈ c, u.oneCell' = true
instance {n : Nat} : Inhabited (RawN n) := ⟨⟨List.replicate n (.bool false), by simp, fun u hu => by rw [List.eq_of_mem_replicate hu]; rfl⟩⟩
instance {n : Nat} : Enc (RawN n) where
  sz := n
  R _ x cs := cs = x.c
  len := fun {h x cs} e => by rw [e]; exact x.hl
  one := fun {h x cs} e => by rw [e]; exact x.h1
  mono := fun _ h => h
instance {n : Nat} : Flat (RawN n) := ⟨fun h => h⟩
section
variable {α : Type} [Enc α] [Deep α] {n : Nat}
/-- What elements own, the cells known. -/
def DN : Hp → List (α × RawN n) → Prop
  | _, [] => True
  | h, z :: zs => ∃ p q, Deep.D p z.1 z.2.c ∧ DN q zs ∧ (∀ b, p b = none ∨ q b = none) ∧ Hp.le p h ∧ Hp.le q h
theorem DN.mono {h h' : Hp} (hl : h.le h') : ∀ {zs : List (α × RawN n)}, DN h zs → DN h' zs
  | [], _ => trivial
  | _ :: _, ⟨p, q, a, b, d, l1, l2⟩ => ⟨p, q, a, b, d, Hp.le_trans l1 hl, Hp.le_trans l2 hl⟩
variable {w0 w : World} {G : List Ch}
end
theorem RawN.get {n : Nat} {x : RawN n} {h : Hp} {c : List Value} (hr : R h x c) : c = x.c := hr
end Go.Vg
set_option linter.unusedSimpArgs false
set_option linter.unusedVariables false
namespace Go.Vg
open Enc (R)
/-- A function value that reckons p, in whatever world the frame F stands in. -/
def FnF (P : Program) (w0 : World) (F : Ch) (v : Value) {α β : Type} (enc : α → List Value) (dec : β → Value) (p : α → Option β) : Prop :=
  ∃ (f : FuncId) (cs : List Value), v = .func (.func f) #[] cs.toArray ∧ Ent P f ∧ ∀ x r w', Sat w0 [F] w' → p x = some r → Calls P f (enc x ++ cs).toArray w' fun e w'' => e = .returned (dec r) ∧ Ext w' w''
/-- The same of what holds slices. -/
def FnRF (P : Program) (w0 : World) (F : Ch) (v : Value) {α β : Type} (Rel : α → List Value → Prop) (dec : β → Value) (p : α → Option β) : Prop :=
  ∃ (f : FuncId) (cs : List Value), v = .func (.func f) #[] cs.toArray ∧ Ent P f ∧ ∀ x c r w', Rel x c → Sat w0 [F] w' → p x = some r → Calls P f (c ++ cs).toArray w' fun e w'' => e = .returned (dec r) ∧ Ext w' w''
section
variable {P : Program} {n : Nat} {fr : Fr} {dst : Option Tmp} {ty : TypeId} {pos : String} {aft : Array Edge} {g : Option (Nat × Bool)} {S : As} {w0 w : World} {G : List Ch} {F : Ch}
theorem Qt.callF {xo : Operand} {xs : List Operand} {ts : Array TypeId} {v : Value} {α β : Type} {enc : α → List Value} {dec : β → Value} {p : α → Option β} (hv : ev fr xo = some v) (hf : FnF P w0 F v enc dec p) (hs : ∀ w, S w → Sat w0 [F] w) {x : α} {r : β} (hr : p x = some r) (hx : evs fr xs = some (enc x)) :
    Qt P n ⟨dst, .call { callee := .value xo, args := xs.toArray, argTypes := ts }, ty, pos, aft, g⟩ fr S (dec r) := fun a w k s => by
  obtain ⟨f, cs, rfl, he, hc⟩ := hf
  rw [run_enterV he hv hx k]
  have := hc x r w (hs w s) hr
  rw [show (enc x).toArray ++ cs.toArray = (enc x ++ cs).toArray by simp]
  exact ⟨Ext.refl w, this⟩
end
end Go.Vg
set_option linter.unusedSimpArgs false
set_option linter.unusedVariables false
namespace Go.Vg
open Go.RowKit (Below)
open Enc (R)
section
variable {w0 w : World} {G : List Ch} {α : Type} [Enc α]
/-- Elements that are read in B. -/
def FA (B : Hp) : Hp → List α → List Value → Prop := fun _ xs cs => RF B xs cs
instance {B : Hp} : PhM w0 (FA (α := α) B) := ⟨fun _ _ d => d⟩
end
section
variable {P : Program} {n : Nat} {fr : Fr} {dst : Option Tmp} {ty : TypeId} {pos : String} {aft : Array Edge} {g : Option (Nat × Bool)} {S : As} {w0 : World} {G : List Ch}
end
end Go.Vg
set_option linter.unusedSimpArgs false
set_option linter.unusedVariables false
namespace Go.Vg
open Go.RowKit (Below)
open Enc (R)
/-- A list behind a slice: the array in H, what its elements hold in A. -/
def R2 {α : Type} [Enc α] (A H : Hp) (xs : List α) (v : Value) : Prop := ∃ p cap, v = .slice p xs.length cap ∧ xs.length ≤ cap ∧ cap ≤ maxLen ∧ (xs = [] ∨ ∃ b o cs, p = some ⟨b, o, none⟩ ∧ RF A xs cs ∧ AtH H b o cs)
section
variable {w0 w : World} {G : List Ch} {α : Type} [Enc α] {A A' H H' : Hp} {xs : List α} {v : Value}
theorem R2.of (h : R A xs [v]) : R2 A A xs v := by
  obtain ⟨p, cap, e, h1, h2, h3⟩ := h
  simp only [List.cons.injEq, and_true] at e
  exact ⟨p, cap, e, h1, h2, h3⟩
theorem R2.mono (hA : A.le A') (hH : H.le H') (h : R2 A H xs v) : R2 A' H' xs v := by
  obtain ⟨p, cap, e, h1, h2, h3⟩ := h
  refine ⟨p, cap, e, h1, h2, h3.imp id ?_⟩
  rintro ⟨b, o, cs, hp, hr, ha⟩
  exact ⟨b, o, cs, hp, hr.mono hA, ha.mono hH⟩
theorem R2.toR {K : Hp} (hA : A.le K) (hH : H.le K) (h : R2 A H xs v) : R K xs [v] := by
  obtain ⟨p, cap, e, h1, h2, h3⟩ := h.mono hA hH
  exact ⟨p, cap, by rw [e], h1, h2, h3⟩
theorem R2.cut {p : Option Addr} {len cap sz : Nat} (hr : R2 A H xs (.slice p len cap)) {l k : Nat} (hlk : l ≤ k) (hk : k ≤ xs.length) (hsz : sz = Enc.sz α) : R2 A H ((xs.take k).drop l) (.slice (cutP p cap l sz) (k - l) (cap - l)) := by
  subst hsz
  obtain ⟨p', cap', e, h1, h2, h3⟩ := hr
  simp only [Value.slice.injEq] at e
  obtain ⟨rfl, rfl, rfl⟩ := e
  refine ⟨cutP p cap l (Enc.sz α), cap - l, by simp [Nat.min_eq_left hk], by simp; omega, by unfold maxLen at *; omega, ?_⟩
  rcases h3 with rfl | ⟨b, o, cs, rfl, hr, ha⟩
  · left; simp
  · by_cases hc : cap = l
    · left
      apply List.eq_nil_of_length_eq_zero
      simp; omega
    · right
      refine ⟨b, o + l * Enc.sz α, (cs.take (k * Enc.sz α)).drop (l * Enc.sz α), by simp [cutP, hc, add_lit], (hr.take k).drop l, ?_⟩
      obtain ⟨c, t, f, hb, hg⟩ := ha
      refine ⟨c, t, f, hb, fun j v hj => ?_⟩
      rw [List.getElem?_drop, List.getElem?_take] at hj
      split at hj
      · rw [Nat.add_assoc]; exact hg _ _ hj
      · cases hj
theorem R2.take {p : Option Addr} {len cap : Nat} (hr : R2 A H xs (.slice p len cap)) {k : Nat} (hk : k ≤ xs.length) : R2 A H (xs.take k) (.slice p k cap) := by
  have := hr.cut (sz := Enc.sz α) (Nat.zero_le k) hk rfl
  rw [List.drop_zero, Nat.sub_zero, Nat.sub_zero] at this
  obtain ⟨p', cap', e, h1, h2, h3⟩ := hr
  simp only [Value.slice.injEq] at e
  obtain ⟨rfl, rfl, rfl⟩ := e
  refine ⟨p, cap, by simp [Nat.min_eq_left hk], by simp; omega, h2, ?_⟩
  rcases h3 with rfl | ⟨b, o, cs, rfl, hr, ha⟩
  · left; simp
  · refine .inr ⟨b, o, cs.take (k * Enc.sz α), rfl, hr.take k, ?_⟩
    obtain ⟨c, t, f, hb, hg⟩ := ha
    refine ⟨c, t, f, hb, fun j v hj => ?_⟩
    rw [List.getElem?_take] at hj
    split at hj
    · exact hg _ _ hj
    · cases hj
theorem R2.drop {p : Option Addr} {len cap sz : Nat} (hr : R2 A H xs (.slice p len cap)) {l : Nat} (hl : l ≤ xs.length) (hsz : sz = Enc.sz α) : R2 A H (xs.drop l) (.slice (cutP p cap l sz) (len - l) (cap - l)) := by
  have h := hr.cut hl (Nat.le_refl _) hsz
  rw [List.take_length] at h
  obtain ⟨p', cap', e, _⟩ := hr
  simp only [Value.slice.injEq] at e
  rw [e.2.1]; exact h
/-- An element. -/
theorem R2.el [Inhabited α] {b o len cap : Nat} (h : R2 A H xs (.slice (some ⟨b, o, none⟩) len cap)) {ji : Int} (hj : 0 ≤ ji ∧ ji < (xs.length : Int)) : ∃ c, R A (gi xs ji) c ∧ AtH H b (o + ji.toNat * Enc.sz α) c := by
  obtain ⟨p', cap', e, h1, h2, h3⟩ := h
  simp only [Value.slice.injEq] at e
  obtain ⟨rfl, rfl, rfl⟩ := e
  rcases h3 with rfl | ⟨b', o', cs, hp, hr, ha⟩
  · simp at hj; omega
  · simp only [Option.some.injEq, Addr.mk.injEq, and_true] at hp
    obtain ⟨rfl, rfl⟩ := hp
    obtain ⟨c, hc, hg⟩ := hr.get (gi_get hj)
    obtain ⟨d, t, f, e1, e2⟩ := ha
    exact ⟨c, hc, d, t, f, e1, fun j v hv => by rw [Nat.add_assoc]; exact e2 _ _ (hg _ _ hv)⟩
/-- What reads so, in every world. -/
def Rd2 (S : As) (A : Hp) (xs : List α) (v : Value) : Prop := ∀ w, S w → R2 A (hpOf w) xs v
theorem Rd2.ofFz {hh : Hp} (k : Nat) (hk : G[k]? = some (fz hh)) (h : R2 A hh xs v) : Rd2 (Sat w0 G) A xs v := fun w s => h.mono (Hp.le_refl _) (Held.fz k hk w s)
/-- What stands in chunk j goes to what stands still. -/
theorem Sat.absorb {C : Ch} (k j : Nat) (s : Sat w0 G w) (hk : G[k]? = some (fz A)) (hj : G[j]? = some C) (hne : k ≠ j) : ∃ h, (A.le h ∧ ∃ p, C p ∧ p.le h) ∧ Sat w0 ((G.set k (fz h)).set j dead) w := by
  have s1 := s.merge2 k j hk hj hne (fun r => A.le r ∧ ∃ p, C p ∧ p.le r) fun p q r a b d l1 l2 => by
    have : p = A := a
    subst this
    exact ⟨l1, q, b, l2⟩
  have hkl := (List.getElem?_eq_some_iff.1 hk).1
  have hk1 : ((G.set k (fun r => A.le r ∧ ∃ p, C p ∧ p.le r)).set j dead)[k]? = some (fun r => A.le r ∧ ∃ p, C p ∧ p.le r) := by rw [List.getElem?_set_ne hne.symm, List.getElem?_set_self hkl]
  obtain ⟨h, hh, s2⟩ := s1.freeze k hk1
  rw [List.set_comm _ _ hne.symm, List.set_set] at s2
  exact ⟨h, hh, s2⟩
/-- Nothing yet. -/
theorem Sat.newArena (s : Sat w0 G w) : ∃ h : Hp, True ∧ Sat w0 (G ++ [fz h]) w := by
  obtain ⟨h, _, s1⟩ := Sat.freeze (C := dead) G.length (by simp) (s.addEmpty dead fun _ => trivial)
  exact ⟨h, trivial, by simpa using s1⟩
end
section
variable {P : Program} {n : Nat} {fr : Fr} {dst : Option Tmp} {ty : TypeId} {pos : String} {aft : Array Edge} {g : Option (Nat × Bool)} {S : As} {w0 : World} {G : List Ch}
/-- Ahead of a step what stands in chunk j goes to what stands still. -/
theorem Sd.absorb {o : Oper} {κ : Type} {C : Ch} {A : Hp} {G1 : List Ch} {F : Hp → List Ch} {val : Hp → κ → Value} {S' : Hp → κ → As} (pre : ∀ w, Sat w0 G w → Sat w0 G1 w) (kA j : Nat) (hk : G1[kA]? = some (fz A)) (hj : G1[j]? = some C) (hne : kA ≠ j)
    (up : ∀ h, A.le h → ∀ w, Sat w0 ((G1.set kA (fz h)).set j dead) w → Sat w0 (F h) w) (h : ∀ i : Hp, (A.le i ∧ ∃ p, C p ∧ p.le i) → Sd P n o fr (Sat w0 (F i)) (val i) (S' i)) :
    Sd P n o fr (Sat w0 G) (fun z : Hp × κ => val z.1 z.2) (fun z => S' z.1 z.2) := fun a w k s => by
  obtain ⟨i, hi, s0⟩ := Sat.absorb kA j (pre w s) hk hj hne
  have := h i hi a w k (up i hi.1 w s0)
  revert this
  generalize (execOp a.eval o).run P w = r
  intro this
  cases r with
  | ok x w' =>
    cases x <;> simp only [solidRes] at this ⊢
    case value u => obtain ⟨x, h1, h2⟩ := this; exact ⟨(i, x), h1, h2⟩
    case skip => obtain ⟨x, h1, h2⟩ := this; exact ⟨(i, x), h1, h2⟩
    case enter f args => exact this.mono fun e w'' ⟨x, h1, h2⟩ => ⟨(i, x), h1, h2⟩
  | halt x w' => exact this.elim
end
section
variable {S : As} {α : Type} [Enc α] {A : Hp} {xs : List α}
theorem Rd2.take {p : Option Addr} {len cap : Nat} (h : Rd2 S A xs (.slice p len cap)) {k : Nat} (hk : k ≤ xs.length) : Rd2 S A (xs.take k) (.slice p k cap) := fun w s => (h w s).take hk
theorem Rd2.drop {p : Option Addr} {len cap sz : Nat} (h : Rd2 S A xs (.slice p len cap)) {l : Nat} (hl : l ≤ xs.length) (hsz : sz = Enc.sz α) : Rd2 S A (xs.drop l) (.slice (cutP p cap l sz) (len - l) (cap - l)) := fun w s => (h w s).drop hl hsz
theorem Rd2.cut {p : Option Addr} {len cap sz : Nat} (h : Rd2 S A xs (.slice p len cap)) {l k : Nat} (hlk : l ≤ k) (hk : k ≤ xs.length) (hsz : sz = Enc.sz α) : Rd2 S A ((xs.take k).drop l) (.slice (cutP p cap l sz) (k - l) (cap - l)) := fun w s => (h w s).cut hlk hk hsz
end
end Go.Vg
set_option linter.unusedSimpArgs false
set_option linter.unusedVariables false
namespace Go.Vg
open Go.RowKit (Below)
open Enc (R)
open Go.MapKept
section
variable {β : Type}
def kput : List (Int × β) → Int → β → List (Int × β)
  | [], k, v => [(k, v)]
  | (a, b) :: L, k, v => if a = k then (k, v) :: L else (a, b) :: kput L k v
def kget : List (Int × β) → Int → Option β
  | [], _ => none
  | (a, b) :: L, k => if a = k then some b else kget L k
def keys (L : List (Int × β)) : List Int := L.map (·.1)
theorem kget_put (L : List (Int × β)) (k i : Int) (v : β) : kget (kput L k v) i = if i = k then some v else kget L i := by
  induction L with
  | nil =>
    simp only [kput, kget]
    by_cases h : k = i
    · rw [if_pos h, if_pos h.symm]
    · rw [if_neg h, if_neg fun e => h e.symm]
  | cons a L ih =>
    obtain ⟨a, b⟩ := a
    simp only [kput]
    by_cases h : a = k
    · rw [if_pos h]
      simp only [kget]
      by_cases h2 : i = k
      · rw [if_pos h2, if_pos h2.symm]
      · rw [if_neg h2, if_neg fun e => h2 e.symm, if_neg fun e => h2 (by omega)]
    · rw [if_neg h]
      simp only [kget]
      by_cases h2 : a = i
      · rw [if_pos h2, if_pos h2, if_neg (by omega)]
      · rw [if_neg h2, if_neg h2, ih]
theorem keys_put (L : List (Int × β)) (k : Int) (v : β) : (kget L k ≠ none → keys (kput L k v) = keys L) ∧ (kget L k = none → keys (kput L k v) = keys L ++ [k]) := by
  induction L with
  | nil => exact ⟨fun h => absurd rfl h, fun _ => rfl⟩
  | cons a L ih =>
    obtain ⟨a, b⟩ := a
    by_cases h : a = k
    · have e1 : kget ((a, b) :: L) k = some b := by simp [kget, h]
      have e2 : kput ((a, b) :: L) k v = (k, v) :: L := by simp [kput, h]
      rw [e1, e2]
      exact ⟨fun _ => by simp [keys, h], fun e => by cases e⟩
    · have e1 : kget ((a, b) :: L) k = kget L k := by simp [kget, h]
      have e2 : kput ((a, b) :: L) k v = (a, b) :: kput L k v := by simp [kput, h]
      rw [e1, e2]
      exact ⟨fun e => by show a :: keys (kput L k v) = a :: keys L; rw [ih.1 e], fun e => by show a :: keys (kput L k v) = a :: (keys L ++ [k]); rw [ih.2 e]⟩
theorem kget_none {L : List (Int × β)} {k : Int} : kget L k = none ↔ k ∉ keys L := by
  induction L with
  | nil => simp [kget, keys]
  | cons a L ih =>
    obtain ⟨a, b⟩ := a
    simp only [kget, keys, List.map_cons, List.mem_cons, not_or]
    by_cases h : a = k
    · rw [if_pos h]; simp [h]
    · rw [if_neg h, ih]
      exact ⟨fun k1 => ⟨fun e => h e.symm, k1⟩, fun k1 => k1.2⟩
theorem nodup_put {L : List (Int × β)} {k : Int} {v : β} (h : (keys L).Nodup) : (keys (kput L k v)).Nodup := by
  cases hk : kget L k with
  | some u => rw [(keys_put L k v).1 (by rw [hk]; exact fun e => by cases e)]; exact h
  | none =>
    rw [(keys_put L k v).2 hk, List.nodup_append]
    refine ⟨h, by simp, fun a ha b hb => ?_⟩
    simp at hb; subst hb
    exact fun e => kget_none.1 hk (e ▸ ha)
end
def kvv (L : List (Int × Value)) : List (Value × Value) := L.map fun p => (.int .i64 p.1, p.2)
def mapL (b : Nat) (L : List (Int × Value)) : Ch := fun h => ∃ es clock, h b = some (.map es clock) ∧ es.toList.map (fun e => (e.key, e.val)) = kvv L ∧ (keys L).Nodup
theorem findNow_L (k : Int) : ∀ (es : List MapEntry) (L : List (Int × Value)) (i : Nat), es.map (fun e => (e.key, e.val)) = kvv L →
    (kget L k = none ∧ (∀ v, kput L k v = L ++ [(k, v)]) ∧ Instr.findNow (.int .i64) (.int .i64 k) es i = some none) ∨ ∃ j v, L[j]? = some (k, v) ∧ kget L k = some v ∧ (∀ u, kput L k u = L.set j (k, u)) ∧ Instr.findNow (.int .i64) (.int .i64 k) es i = some (some (i + j, v))
  | [], L, i, h => by
    cases L with
    | nil => exact .inl ⟨rfl, fun _ => rfl, rfl⟩
    | cons a L => simp [kvv] at h
  | e :: es, L, i, h => by
    cases L with
    | nil => simp [kvv] at h
    | cons a L =>
      obtain ⟨k', v'⟩ := a
      simp only [kvv, List.map_cons, List.cons.injEq, Prod.mk.injEq] at h
      obtain ⟨⟨h1, h2⟩, h3⟩ := h
      by_cases hk : k' = k
      · subst hk
        exact .inr ⟨0, v', rfl, by simp [kget], fun u => by simp [kput], by simp [Instr.findNow, Instr.sameNow, h1, h2]⟩
      · have hb : (k == k') = false := by simp; exact fun e => hk e.symm
        have hs : Instr.findNow (.int .i64) (.int .i64 k) (e :: es) i = Instr.findNow (.int .i64) (.int .i64 k) es (i + 1) := by
          simp [Instr.findNow, Instr.sameNow, h1, hb]
        rcases findNow_L k es L (i + 1) h3 with ⟨g1, g0, g2⟩ | ⟨j, v, g1, g2, g0, g3⟩
        · exact .inl ⟨by simp [kget, hk, g1], fun v => by simp [kput, hk, g0], by rw [hs, g2]⟩
        · exact .inr ⟨j + 1, v, by simpa using g1, by simp [kget, hk, g2], fun u => by simp [kput, hk, g0], by rw [hs, g3]; simp; omega⟩
/-- What a map type maps ints to: the zero value. -/
def mpZ (P : Program) (t : TypeId) : Option Value := match P.underlying t with
  | some (.map k e) => (match P.underlying k with | some (.int .i64) => (P.info? e).bind (·.zero) | _ => none)
  | _ => none
theorem mpZ_spec {P : Program} {t : TypeId} {z : Value} (h : mpZ P t = some z) : ∃ k e, P.underlying t = some (.map k e) ∧ P.underlying k = some (.int .i64) ∧ ∃ i, P.info? e = some i ∧ i.zero = some z := by
  unfold mpZ at h
  split at h
  · rename_i k e hu
    split at h
    · rename_i hk
      obtain ⟨i, hi, hz⟩ := Option.bind_eq_some_iff.1 h
      exact ⟨k, e, hu, hk, i, hi, hz⟩
    · cases h
  · cases h
section
variable {P : Program} {n : Nat} {fr : Fr} {dst : Option Tmp} {ty : TypeId} {pos : String} {aft : Array Edge} {g : Option (Nat × Bool)} {S : As} {w0 : World} {G : List Ch}
theorem Sat.getMapL {w : World} {k b : Nat} {L : List (Int × Value)} (h : Sat w0 G w) (hk : G[k]? = some (mapL b L)) :
    ∃ es clock, w.heap[b]? = some (.map es clock) ∧ es.toList.map (fun e => (e.key, e.val)) = kvv L ∧ (keys L).Nodup := by
  obtain ⟨p, ⟨es, clock, h1, h2⟩, hl, _⟩ := h.get k hk
  exact ⟨es, clock, hl _ _ h1, h2⟩
theorem Sat.setMapL {w : World} {k b : Nat} {L L' : List (Int × Value)} (s : Sat w0 G w) (hk : G[k]? = some (mapL b L)) {es : Array MapEntry} {clock : Nat}
    (h2 : es.toList.map (fun e => (e.key, e.val)) = kvv L') (h3 : (keys L').Nodup) : Sat w0 (G.set k (mapL b L')) { w with heap := w.heap.setIfInBounds b (.map es clock) } := by
  refine s.turn k hk _ rfl rfl rfl (by simp) fun p hp hl hb => ?_
  obtain ⟨es0, c0, e0, _⟩ := hp
  have hbw := hl _ _ e0
  obtain ⟨g1, g2⟩ := heap_set (o' := .map es clock) (show w.heap[b]? = some _ from hbw)
  refine ⟨fun c hc hn => g2 c (fun e' => by rw [e', e0] at hn; cases hn), fun c => if c = b then some (.map es clock) else p c, ⟨es, clock, by simp, h2, h3⟩, fun c o hc => ?_⟩
  dsimp only at hc
  split at hc
  · rename_i hcb; subst hcb; cases hc
    exact ⟨.inl (by rw [e0]; simp), g1⟩
  · rename_i hcb
    exact ⟨.inl (by rw [hc]; simp), by show (w.heap.setIfInBounds b (.map es clock))[c]? = _; rw [g2 c hcb]; exact hl _ _ hc⟩
theorem Sd.makeMapL {t : TypeId} : Sd P n ⟨dst, .makeMap t none, ty, pos, aft, g⟩ fr (Sat w0 G) (fun b : Nat => .map (some b)) (fun b => Sat w0 (G ++ [mapL b []])) := fun a w k s => by
  have : (execOp a.eval ⟨dst, .makeMap t none, ty, pos, aft, g⟩).run P w = .ok (.value (.map (some w.heap.size))) (w.alloc (.map #[] 0)) := by
    simp [execOp, Instr.makeMap]
  rw [this]
  refine ⟨w.heap.size, rfl, s.new (Ext.alloc w _) _ (fun b => if b = w.heap.size then some (.map #[] 0) else none) ⟨#[], 0, by simp, rfl, by simp [keys]⟩ (fun b o hb => ?_) (fun b o hb => ?_)⟩
  · dsimp only at hb
    split at hb
    · rename_i hb'; subst hb'; cases hb
      exact (heap_alloc w _).1
    · cases hb
  · split at hb
    · omega
    · cases hb
theorem Qt.lookL1 (k : Nat) {t : TypeId} {x y : Operand} {b : Nat} {L : List (Int × Value)} {i : Int} {z : Value} (ht : mpZ P t = some z) (hx : ev fr x = some (.map (some b))) (hy : ev fr y = some (.int .i64 i)) (hk : G[k]? = some (mapL b L)) :
    Qt P n ⟨dst, .lookup t x y false, ty, pos, aft, g⟩ fr (Sat w0 G) ((kget L i).getD z) := fun a w kn s => by
  obtain ⟨kt, et, u1, u2, inf, u3, u4⟩ := mpZ_spec ht
  obtain ⟨es, clock, e1, e2, e3⟩ := s.getMapL hk
  have hck : (Instr.checkKey es.isEmpty 10000 kt (.int .i64 i)).run P w = .ok () w := Go.MapKept.run_checkKey u2 (by simp [IsKey]) _ _
  rcases findNow_L i es.toList L 0 e2 with ⟨f1, _, f2⟩ | ⟨j, v, f0, f1, _, f2⟩
  · have hr : (execOp a.eval ⟨dst, .lookup t x y false, ty, pos, aft, g⟩).run P w = .ok (.value z) w := by
      simp [execOp, kn.ev hx, kn.ev hy, Instr.lookup, run_underlying u1, Go.MapKept.run_getObj_map e1, hck, Go.MapKept.run_findKey u2 f2, zeroValue, typeInfo, u3, u4, Result.andThen]
    rw [hr, f1]; exact ⟨Ext.refl w, rfl⟩
  · have hr : (execOp a.eval ⟨dst, .lookup t x y false, ty, pos, aft, g⟩).run P w = .ok (.value v) w := by
      simp [execOp, kn.ev hx, kn.ev hy, Instr.lookup, run_underlying u1, Go.MapKept.run_getObj_map e1, hck, Go.MapKept.run_findKey u2 f2, Result.andThen]
    rw [hr, f1]; exact ⟨Ext.refl w, rfl⟩
theorem Sd.mapPut (k : Nat) {t : TypeId} {x y z : Operand} {b : Nat} {L : List (Int × Value)} {i : Int} {v zv : Value} (ht : mpZ P t = some zv) (hx : ev fr x = some (.map (some b))) (hy : ev fr y = some (.int .i64 i)) (hz : ev fr z = some v) (hk : G[k]? = some (mapL b L)) :
    Sd P n ⟨none, .mapUpdate t x y z, ty, pos, aft, g⟩ fr (Sat w0 G) (fun _ : Unit => undef) (fun _ => Sat w0 (G.set k (mapL b (kput L i v)))) := fun a w kn s => by
  obtain ⟨kt, et, u1, u2, inf, u3, u4⟩ := mpZ_spec ht
  obtain ⟨es, clock, e1, e2, e3⟩ := s.getMapL hk
  have hck : (Instr.checkKey false 10000 kt (.int .i64 i)).run P w = .ok () w := Go.MapKept.run_checkKey u2 (by simp [IsKey]) _ _
  rcases findNow_L i es.toList L 0 e2 with ⟨f1, fp, f2⟩ | ⟨j, u, f0, f1, fp, f2⟩
  · have hr : (execOp a.eval ⟨none, .mapUpdate t x y z, ty, pos, aft, g⟩).run P w = .ok .skip { w with heap := w.heap.setIfInBounds b (.map (es.push { key := .int .i64 i, val := v, born := clock }) (clock + 1)) } := by
      simp [execOp, kn.ev hx, kn.ev hy, kn.ev hz, Instr.mapUpdate, run_underlying u1, Go.MapKept.run_getObj_map e1, hck, Go.MapKept.run_findKey u2 f2, Result.andThen, Go.MapKept.run_setObj_map _ e1]
    rw [hr]
    refine ⟨(), rfl, s.setMapL hk ?_ (nodup_put e3)⟩
    rw [fp]
    simp [kvv] at e2 ⊢; exact e2
  · have hje : ∃ e, es[j]? = some e ∧ e.key = .int .i64 i := by
      have h1 : (es.toList.map (fun e => (e.key, e.val)))[j]? = some (.int .i64 i, u) := by rw [e2]; simp [kvv, f0]
      rw [List.getElem?_map] at h1
      obtain ⟨e, he, hq⟩ := Option.map_eq_some_iff.1 h1
      exact ⟨e, by simpa using he, (Prod.mk.inj hq).1⟩
    obtain ⟨e, he, hek⟩ := hje
    rw [Nat.zero_add] at f2
    have hkey : ((es[j]?).map (·.key)).getD (.int .i64 i) = .int .i64 i := by rw [he]; simp [hek]
    have hst : (Instr.keyThatStays (.int .i64 i) (.int .i64 i)).run P w = .ok (.int .i64 i) w := by
      simp [Instr.keyThatStays, Instr.sameBits]
    have hr : (execOp a.eval ⟨none, .mapUpdate t x y z, ty, pos, aft, g⟩).run P w = .ok .skip { w with heap := w.heap.setIfInBounds b (.map (es.modify j fun e => { e with key := .int .i64 i, val := v }) clock) } := by
      simp only [execOp, kn.ev hx, kn.ev hy, kn.ev hz, Instr.mapUpdate, Sem.run_bind, run_underlying u1, Go.MapKept.run_getObj_map e1, hck, Go.MapKept.run_findKey u2 f2, Result.andThen, hkey, hst, Go.MapKept.run_setObj_map _ e1, Sem.run_pure]
    rw [hr]
    refine ⟨(), rfl, s.setMapL hk ?_ (nodup_put e3)⟩
    rw [fp]
    refine List.ext_getElem? fun q => ?_
    have h1 : (es.toList.map (fun e => (e.key, e.val)))[q]? = (kvv L)[q]? := by rw [e2]
    simp only [Array.toList_modify, List.getElem?_map, List.getElem?_modify, kvv, List.getElem?_set] at h1 ⊢
    have hl := congrArg List.length e2
    simp only [List.length_map, kvv, Array.length_toList] at hl
    by_cases hq : j = q
    · subst hq
      have hlt : j < L.length := (List.getElem?_eq_some_iff.1 f0).1
      simp [he, hlt]
    · simp only [if_neg hq, h1]
      cases hqq : es.toList[q]? with
      | none => rw [hqq] at h1; simpa using h1
      | some e' => rw [hqq] at h1; simpa using h1
theorem Qt.lenL (k : Nat) {t : TypeId} {x : Operand} {b : Nat} {L : List (Int × Value)} {z : Value} (ht : mpZ P t = some z) (hx : ev fr x = some (.map (some b))) (hk : G[k]? = some (mapL b L)) :
    Qt P n ⟨dst, .call { callee := .builtin .len, args := #[x], argTypes := #[t] }, ty, pos, aft, g⟩ fr (Sat w0 G) (.int .i64 L.length) := fun a w kn s => by
  obtain ⟨kt, et, u1, _⟩ := mpZ_spec ht
  obtain ⟨es, clock, e1, e2, e3⟩ := s.getMapL hk
  have hl := congrArg List.length e2
  simp only [List.length_map, kvv, Array.length_toList] at hl
  have hr : (execOp a.eval ⟨dst, .call { callee := .builtin .len, args := #[x], argTypes := #[t] }, ty, pos, aft, g⟩).run P w = .ok (.value (.int .i64 L.length)) w := by
    simp [execOp, kn.ev hx, resolve, invoke, builtin, Builtin.len_, run_underlying u1, Go.MapKept.run_getObj_map e1, goInt, hl, Result.andThen]
  rw [hr]; exact ⟨Ext.refl w, rfl⟩
theorem Sat.cellSet {w : World} {k b : Nat} {cs : List Value} {e : TypeId} (s : Sat w0 G w) (hk : G[k]? = some (blk b cs e)) (o : Nat) (v : Value) : Sat w0 (G.set k (blk b (cs.set o v) e)) (w.setCell ⟨b, o, none⟩ v) := by
  rw [setCell_row (s.getBlk hk).1]; exact s.setBlk hk _
theorem Sat.drewS {w : World} (s : Sat w0 G w) : Sat w0 G w.drew := by
  obtain ⟨h1, h2, h3⟩ := s
  exact ⟨h1.trans (Ext.drew w), h2, h3⟩
theorem Sat.cellAt {w : World} {k b o : Nat} {cs : List Value} {e : TypeId} {v : Value} (s : Sat w0 G w) (hk : G[k]? = some (blk b cs e)) (hc : cs[o]? = some v) : w.cell? ⟨b, o, none⟩ = some v := by
  simp [World.cell?, (s.getBlk hk).1, hc]
end
end Go.Vg
set_option linter.unusedVariables false
set_option linter.unusedSectionVars false
namespace Go.Vg
open Go
theorem sj {α : Type} {a b : α} (h : some a = some b) : a = b := Option.some.inj h
section
variable {P : Program} {n : Nat} {ops : Array Oper} {Q : Po} {o : Oper} {rest : List Oper} {fr : Fr} {S : As}
theorem rp {v : Value} (h : Pu P n o fr v) (hr : RS P n ops Q rest (putF o.dst v fr) S) (hg : gval ops fr o.guard = some true := by rfl) (hd : dOk n o.dst = true := by rfl) : RS P n ops Q (o :: rest) fr S := RS.p h hg hd hr
theorem rq {v : Value} {w0 : World} {G : List Ch} (h : Qt P n o fr (Sat w0 G) v) (hr : RS P n ops Q rest (putF o.dst v fr) (Sat w0 G)) (hg : gval ops fr o.guard = some true := by rfl) (hd : dOk n o.dst = true := by rfl) : RS P n ops Q (o :: rest) fr (Sat w0 G) := RS.q h hg hd hr
theorem ro (hr : RS P n ops Q rest (putF o.dst undef fr) S) (hg : gval ops fr o.guard = some false := by rfl) (hd : dOk n o.dst = true := by rfl) : RS P n ops Q (o :: rest) fr S := RS.no hg hd hr
variable {dst : Option Tmp} {ty : TypeId} {pos : String} {aft : Array Edge} {g : Option (Nat × Bool)}
theorem rM {x : Operand} {v : Value} (h : ev fr x = some v) (hr : RS P n ops Q rest (putF dst v fr) S) (hg : gval ops fr g = some true := by rfl) (hd : dOk n dst = true := by rfl) : RS P n ops Q (⟨dst, .move x, ty, pos, aft, g⟩ :: rest) fr S := RS.p (Pu.move h) hg hd hr
theorem rA {x : Operand} {v : Value} (h : ev fr x = some v) (hr : RS P n ops Q rest (putF dst v fr) S) (hg : gval ops fr g = some true := by rfl) (hd : dOk n dst = true := by rfl) : RS P n ops Q (⟨dst, .assign x, ty, pos, aft, g⟩ :: rest) fr S := RS.p (Pu.assign h) hg hd hr
end
section
variable {P : Program} {n : Nat} {ops : Array Oper} {Q : Po} {full : List (Nat × Kd)} {plan : List (Nat × Kd)} {fr : Fr}
theorem dp {i : Nat} {o : Oper} {v : Value} {w0 : World} {G : List Ch} (hi : ops[i]? = some o) (h : Pu P n o fr v) (hr : RD P n ops Q full (fun _ => True) plan (putF o.dst v fr) (Sat w0 G)) (hg : gval ops fr o.guard = some true := by rfl) (hd : dOk n o.dst = true := by rfl) : RD P n ops Q full (fun _ => True) ((i, .pu) :: plan) fr (Sat w0 G) := RD.p (fun _ _ => trivial) hi h hg hd hr
theorem dq {i : Nat} {o : Oper} {v : Value} {w0 : World} {G : List Ch} (hi : ops[i]? = some o) (h : Qt P n o fr (Sat w0 G) v) (hr : RD P n ops Q full (fun _ => True) plan (putF o.dst v fr) (Sat w0 G)) (hg : gval ops fr o.guard = some true := by rfl) (hd : dOk n o.dst = true := by rfl) : RD P n ops Q full (fun _ => True) ((i, .rd) :: plan) fr (Sat w0 G) := RD.q (fun _ _ => trivial) hi h hg hd hr
theorem dn {i : Nat} {o : Oper} {w0 : World} {G : List Ch} {k : Kd} (hi : ops[i]? = some o) (hr : RD P n ops Q full (fun _ => True) plan (putF o.dst undef fr) (Sat w0 G)) (hk : k = .pu ∨ k = .wk ∨ k = .rd := by decide) (hg : gval ops fr o.guard = some false := by rfl) (hd : dOk n o.dst = true := by rfl) : RD P n ops Q full (fun _ => True) ((i, k) :: plan) fr (Sat w0 G) := RD.no (fun _ _ => trivial) hi hg hd hk hr
end
section
variable {P : Program} {n : Nat} {fr : Fr} {S : As} {Q : Po}
theorem cq {c : Code} (fr' : Fr) (h : T P n c fr' S Q) (hf : Vg.Sub fr fr' := by (repeat (first | exact trivial | refine ⟨rfl, ?_⟩))) : T P n c fr S Q := T.conseq h hf fun _ s => s
end
end Go.Vg
set_option linter.unusedSimpArgs false
set_option linter.unusedVariables false
namespace Go.Vg
open Go.RowKit (Below)
open Enc (R)
open Go.MapKept
def WF (ro : Option Nat) : Fence := { Fence.wide with round := ro }
def noDef (a : Act) : Act := { a with defers := [] }
structure KD (N : Nat) (ds : List Deferred) (fr : Fr) (a : Act) : Prop where
  k : Knows N fr (noDef a)
  d : a.defers = ds
theorem eval_noDef (a : Act) : (noDef a).eval = a.eval := by funext x; cases x <;> rfl
theorem callsWF {ro : Option Nat} {n : Nat} {P : Program} {f : FuncId} {args : Array Value} {w : World} {R : Ending → World → Prop} (h : Calls P f args w R) : CallsIn (WF ro) n P f args w R :=
  (callsIn_wide (n := n)).2 h
theorem KD.putF {N : Nat} {ds : List Deferred} {fr : Fr} {a : Act} (h : KD N ds fr a) {d : Option Nat} (hd : dOk N d = true) (v : Value) : KD N ds (putF d v fr) (a.put d v) := by
  refine ⟨?_, ?_⟩
  · have := h.k.putF hd v
    cases d <;> exact this
  · cases d <;> exact h.d
theorem KD.sub {N : Nat} {ds : List Deferred} {fr r : Fr} {a : Act} (h : KD N ds fr a) (hs : Sub fr r) : KD N ds r a := ⟨h.k.sub hs, h.d⟩
theorem notDef {P : Program} {ρ : Operand → Value} {o : Oper} {w : World} {ι : Type} {val : ι → Value} {S' : ι → As} (h : solidRes P val S' ((execOp ρ o).run P w)) : ∀ c, o.op ≠ .defer c := by
  intro c e
  unfold execOp at h
  rw [e] at h
  simp only [Sem.run_bind] at h
  cases hr : (resolve ρ c o.type).run P w with
  | ok d w' => rw [hr] at h; simp [Result.andThen, solidRes] at h
  | halt x w' => rw [hr] at h; simp [Result.andThen, solidRes] at h

/-- Code, in a round or not. -/
def TR (ro : Option Nat) (P : Program) (N : Nat) (c : Code) (ds : List Deferred) (fr : Fr) (S : As) (Q : Po) : Prop := ∀ a w, KD N ds fr a → S w → c.wpIn (WF ro) 0 P Q a w
/-- The operations of a region. -/
def RR (ro : Option Nat) (P : Program) (N : Nat) (ops : Array Oper) (Q : Po) (l : List Oper) (ds : List Deferred) (fr : Fr) (S : As) : Prop := ∀ a w, KD N ds fr a → S w → wpListIn (WF ro) 0 P ops Q l a w
def CR (N : Nat) (K : Act → World → Prop) (ds : List Deferred) (fr : Fr) (S : As) : Prop := ∀ a w, KD N ds fr a → S w → K a w
section
variable {ro : Option Nat} {P : Program} {N : Nat} {ops : Array Oper} {Q : Po} {rest : List Oper} {ds : List Deferred} {fr : Fr} {S : As} {o : Oper} {K : Act → World → Prop}
theorem RR.nil (h : CR N (Q .normal) ds fr S) : RR ro P N ops Q [] ds fr S := fun a w k s => wpListIn_nil (h a w k s)
theorem RR.solid {ι : Type} {val : ι → Value} {S' : ι → As} (h : Sd P N o fr S val S') (hg : gval ops fr o.guard = some true) (hd : dOk N o.dst = true)
    (hr : ∀ i, RR ro P N ops Q rest ds (putF o.dst (val i) fr) (S' i)) : RR ro P N ops Q (o :: rest) ds fr S := by
  intro a w k s
  have hw : Region.wanted o (yielded ops a.tmps) = true := wanted_of (a := noDef a) k.k hg
  unfold wpListIn
  rw [if_pos hw]
  have := h (noDef a) w k.k s
  rw [eval_noDef] at this
  refine ⟨fun _ _ => trivial, ?_⟩
  rw [Oper.semAt_eq _ _ _ (notDef this)]
  revert this
  generalize (execOp a.eval o).run P w = r
  intro h
  cases r with
  | ok x w' =>
    cases x <;> simp only [solidRes, Oper.uponIn] at h ⊢
    case value u => obtain ⟨i, rfl, hs⟩ := h; exact hr i _ _ (k.putF hd _) hs
    case skip => obtain ⟨i, hu, hs⟩ := h; rw [← hu]; exact hr i _ _ (k.putF hd _) hs
    case enter f args => exact ⟨fun h => (by cases h), callsWF (h.mono fun e w'' ⟨i, he, hs⟩ => by subst he; exact hr i _ _ (k.putF hd _) hs)⟩
  | halt x w' => exact h.elim
theorem RR.q {v : Value} {w0 : World} {G : List Ch} (h : Qt P N o fr (Sat w0 G) v) (hg : gval ops fr o.guard = some true) (hd : dOk N o.dst = true) (hr : RR ro P N ops Q rest ds (Vg.putF o.dst v fr) (Sat w0 G)) : RR ro P N ops Q (o :: rest) ds fr (Sat w0 G) :=
  RR.solid (h.sd (ClE.sat w0 G) (fun _ s => s)) hg hd fun _ => hr
theorem RR.p {v : Value} (h : Pu P N o fr v) (hg : gval ops fr o.guard = some true) (hd : dOk N o.dst = true) (hr : RR ro P N ops Q rest ds (Vg.putF o.dst v fr) S) : RR ro P N ops Q (o :: rest) ds fr S := by
  refine RR.solid (val := fun _ : Unit => v) (S' := fun _ => S) (fun a w k s => ?_) hg hd fun _ => hr
  rw [h a k w]; exact ⟨(), rfl, s⟩
/-- Yield is called: a round. -/
theorem RR.round {l : Nat} {ι : Type} {val : ι → Value} {S' : ι → As} (hnd : ∀ c, o.op ≠ .defer c)
    (h : ∀ a w, Knows N fr a → S w → ∃ fn tmps assign body, (execOp a.eval o).run P w = .ok (.round l fn tmps assign body) w ∧ RoundIn (WF ro) 0 P l fn tmps assign body w (fun e w' => ∃ i, e = .returned (val i) ∧ S' i w'))
    (hg : gval ops fr o.guard = some true) (hd : dOk N o.dst = true)
    (hr : ∀ i, RR ro P N ops Q rest ds (Vg.putF o.dst (val i) fr) (S' i)) : RR ro P N ops Q (o :: rest) ds fr S := by
  intro a w k s
  have hw : Region.wanted o (yielded ops a.tmps) = true := wanted_of (a := noDef a) k.k hg
  unfold wpListIn
  rw [if_pos hw]
  obtain ⟨fn, tmps, assign, body, h1, h2⟩ := h (noDef a) w k.k s
  rw [eval_noDef] at h1
  refine ⟨fun _ _ => trivial, ?_⟩
  rw [Oper.semAt_eq _ _ _ hnd, h1]
  exact ⟨fun h => (by cases h), h2.mono fun e w' ⟨i, he, hs⟩ => by subst he; exact hr i _ _ (k.putF hd _) hs⟩
theorem RR.conseq {fr' : Fr} {S' : As} (h : RR ro P N ops Q rest ds fr' S') (hf : Sub fr fr') (hs : ∀ w, S w → S' w) : RR ro P N ops Q rest ds fr S := fun a w k s => h a w (k.sub hf) (hs w s)
theorem RR.ex {ι : Type} {S' : ι → As} (hp : ∀ w, S w → ∃ i, S' i w) (h : ∀ i, RR ro P N ops Q rest ds fr (S' i)) : RR ro P N ops Q rest ds fr S := fun a w k s => let ⟨i, s'⟩ := hp w s; h i a w k s'
theorem RR.weakS {S' : As} (hs : ∀ w, S w → S' w) (h : RR ro P N ops Q rest ds fr S') : RR ro P N ops Q rest ds fr S := fun a w k s => h a w k (hs w s)
theorem TR.conseq {c : Code} {fr' : Fr} {S' : As} (h : TR ro P N c ds fr' S' Q) (hf : Sub fr fr') (hs : ∀ w, S w → S' w) : TR ro P N c ds fr S Q := fun a w k s => h a w (k.sub hf) (hs w s)
theorem TR.ex {c : Code} {ι : Type} {S' : ι → As} (hp : ∀ w, S w → ∃ i, S' i w) (h : ∀ i, TR ro P N c ds fr (S' i) Q) : TR ro P N c ds fr S Q := fun a w k s => let ⟨i, s'⟩ := hp w s; h i a w k s'
theorem CR.conseq {fr' : Fr} {S' : As} (h : CR N K ds fr' S') (hf : Sub fr fr') (hs : ∀ w, S w → S' w) : CR N K ds fr S := fun a w k s => h a w (k.sub hf) (hs w s)
theorem TR.seq {x y : Code} (h : ∀ K : Act → World → Prop, (∀ ds' fr' S', TR ro P N y ds' fr' S' Q → CR N K ds' fr' S') → TR ro P N x ds fr S (Exit.then K Q)) : TR ro P N (x.seq y) ds fr S Q :=
  fun a w k s => wpIn_seq (h (y.wpIn (WF ro) 0 P Q) (fun _ _ _ ht => ht) a w k s)
theorem TR.skip (h : CR N (Q .normal) ds fr S) : TR ro P N .skip ds fr S Q := fun a w k s => wpIn_skip (h a w k s)
theorem TR.ret (h : CR N (Q .ret) ds fr S) : TR ro P N .ret ds fr S Q := fun a w k s => wpIn_ret (h a w k s)
theorem TR.exit {id : Nat} (h : CR N (Q (.exit id)) ds fr S) : TR ro P N (.exit id) ds fr S Q := fun a w k s => wpIn_exit (h a w k s)
theorem TR.block {id : Nat} {c : Code} (h : TR ro P N c ds fr S (Exit.inBlock id Q)) : TR ro P N (.block id c) ds fr S Q := fun a w k s => wpIn_block (h a w k s)
theorem TR.cond {c : Operand} {x y : Code} {b : Bool} (hc : ev fr c = some (.bool b)) (ht : b = true → TR ro P N x ds fr S Q) (hf : b = false → TR ro P N y ds fr S Q) : TR ro P N (.cond c x y) ds fr S Q :=
  fun a w k s => wpIn_cond_split (by rw [← eval_noDef]; exact k.k.ev hc) (fun h => ht h a w k s) (fun h => hf h a w k s)
theorem TR.region {id : Nat} {l : List Oper} (h : RR ro P N l.toArray Q l ds fr S) : TR ro P N (.region id l.toArray false) ds fr S Q := fun a w k s => wpIn_region_lit (h a w k s)
theorem TR.loop {σ : Type} (FR : σ → Fr) (SS : σ → As) (I : σ → Prop) (m : σ → Nat) {c : Code} (x0 : σ) (hi : I x0) (h0 : Sub fr (FR x0)) (hs : ∀ w, S w → SS x0 w)
    (round : ∀ x, I x → ∀ K : Act → World → Prop, (∀ fr' S' x', I x' → m x' < m x → Sub fr' (FR x') → (∀ w, S' w → SS x' w) → CR N K ds fr' S') → TR ro P N c ds (FR x) (SS x) (Exit.then K Q)) : TR ro P N (.loop c) ds fr S Q := by
  intro a w k s
  refine wpIn_loop_ghost (fun r a w => ∃ x, I x ∧ KD N ds (FR x) a ∧ SS x w ∧ m x = r) (m x0) ⟨x0, hi, k.sub h0, hs w s, rfl⟩ ?_
  rintro r a w ⟨x, hx, hk, hss, rfl⟩
  refine round x hx _ ?_ a w hk hss
  intro fr' S' x' hi' hlt hsub hs' a' w' k' s'
  exact ⟨m x', hlt, x', hi', k'.sub hsub, hs' w' s', rfl⟩
end
/-! ### Regions that draw their order -/
/-- What holds of an activation without its deferred calls. -/
def lift (ds : List Deferred) (Q : Po) : Po := fun e b w => ∀ a, noDef a = b → a.defers = ds → Q e a w
theorem CR.lift {N : Nat} {Q : Po} {ds : List Deferred} {fr : Fr} {S : As} {e : Exit} (h : CR N (Q e) ds fr S) : Cont N (lift ds Q e) fr S := fun a w k s a2 he hd => h a2 w ⟨he ▸ k, hd⟩ s
section
variable {ro : Option Nat} {P : Program} {n : Nat} {ops : Array Oper} {Q : Po} {kd : Nat → Kd} {Cw : As} {ds : List Deferred}
theorem AX.soundIn : ∀ (m : Nat) (listed : Array Bool) (fr : Fr) (S : As), AX P n ops (lift ds Q) kd Cw m listed fr S → ∀ a w, KD n ds fr a → S w → wpAnyIn (WF ro) 0 P .any ops Q m listed a w
  | 0, _, _, _, h, a, w, k, s => ⟨h.1, h.2 (noDef a) w k.k s a rfl k.d⟩
  | m + 1, listed, fr, S, h, a, w, k, s => by
    refine ⟨fun h0 => h.1 h0 (noDef a) w k.k s a rfl k.d, fun j hj => ?_⟩
    have := h.2 j hj
    unfold StepX at this
    unfold wpOpIn
    split
    · rename_i ho; simp only [ho] at this; exact AX.soundIn m _ _ _ this a w k s
    · rename_i o ho
      simp only [ho] at this
      obtain ⟨hd, ⟨h1, h2⟩ | ⟨h1, ι, val, S', h2, h3, h4, h5, h6⟩⟩ := this
      · have hw : Region.wanted o (yielded ops a.tmps) = false := wanted_of (a := noDef a) k.k h1
        rw [hw, if_neg (by simp)]
        exact ⟨fun _ _ => trivial, AX.soundIn m _ _ _ h2 _ w (k.putF hd _) s⟩
      · have hw : Region.wanted o (yielded ops a.tmps) = true := wanted_of (a := noDef a) k.k h1
        rw [if_pos hw]
        have := h2 (noDef a) w k.k s
        rw [eval_noDef] at this
        refine ⟨fun _ _ => trivial, ?_⟩
        rw [Oper.semAt_eq _ _ _ (notDef this)]
        revert this
        generalize (execOp a.eval o).run P w = r
        intro h
        cases r with
        | ok x w' =>
          cases x <;> simp only [solidRes, Oper.uponIn] at h ⊢
          case value u => obtain ⟨i, rfl, hs⟩ := h; exact AX.soundIn m _ _ _ (h6 i ⟨_, hs⟩) _ _ (k.putF hd _) hs
          case skip => obtain ⟨i, hu, hs⟩ := h; rw [← hu]; exact AX.soundIn m _ _ _ (h6 i ⟨_, hs⟩) _ _ (k.putF hd _) hs
          case enter f args => exact ⟨fun h => (by cases h), callsWF (h.mono fun e w'' ⟨i, he, hs⟩ => by subst he; exact AX.soundIn m _ _ _ (h6 i ⟨_, hs⟩) _ _ (k.putF hd _) hs)⟩
        | halt x w' => exact h.elim
theorem TR.drawn {id : Nat} {fr : Fr} {S : As} (Cw : As) (plan : List (Nat × Kd)) (hm : P.follows .mixedOrders = true) (hcl : ClE S) (hp : (planOk ops (Array.replicate ops.size false) plan && noSel ops && plan.length == ops.size && (plan.all fun (i, k) => plan.lookup i == some k)) = true)
    (h : RD P n ops (lift ds Q) plan Cw plan fr S) : TR ro P n (.region id ops true) ds fr S Q := by
  simp only [Bool.and_eq_true, beq_iff_eq, List.all_eq_true] at hp
  obtain ⟨⟨⟨h1, h2⟩, h3⟩, h4⟩ := hp
  intro a w k s
  refine wpIn_region_any hm ?_
  have hx := h _ h1 h2 (fun i kk hi => by have := h4 _ hi; simpa using this) (fun j hl hj => ?_) ⟨_, hcl _ _ s (Ext.drawn w 0)⟩
  · rw [h3] at hx
    exact hx.soundIn _ _ _ _ a _ k (hcl _ _ s (Ext.drawn w _))
  · have : ∀ (l : List (Nat × Kd)), l.lookup j = some .br → (j, Kd.br) ∈ l := by
      intro l
      induction l with
      | nil => intro h; cases h
      | cons x l ih =>
        obtain ⟨y, ky⟩ := x
        intro h
        rw [List.lookup_cons] at h
        split at h
        · rename_i e; cases h; simp at e; simp [e]
        · exact List.mem_cons_of_mem _ (ih h)
    exact this _ hj
end
/-! ### Blocks that are a loop's own -/
def recCh (l : Nat) (r : Loop) : Ch := fun p => p l = some (.loop r)
def defCh (d : Nat) (o : Option (List Deferred)) : Ch := fun p => p d = some (.deferred o)
section
variable {w0 w : World} {G : List Ch}
theorem Sat.newObj {C : Ch} {o : Obj} (s : Sat w0 G w) (hC : ∀ p : Hp, p w.heap.size = some o → C p) : Sat w0 (G ++ [C]) (w.alloc o) :=
  s.new (Ext.alloc w _) _ (fun b => if b = w.heap.size then some o else none) (hC _ (by simp)) (fun b o' hb => by
    dsimp only at hb
    split at hb
    · rename_i hb'; subst hb'; cases hb
      exact (heap_alloc w _).1
    · cases hb) (fun b o' hb => by
    split at hb
    · omega
    · cases hb)
theorem Sat.setObj {k b : Nat} {C C' : Ch} {o' : Obj} (s : Sat w0 G w) (hk : G[k]? = some C) (hC : ∀ p, C p → ∃ o, p b = some o) (hC' : ∀ p : Hp, p b = some o' → C' p) : Sat w0 (G.set k C') (w.putObj b o') := by
  refine s.turn k hk _ rfl rfl rfl (by simp [World.putObj]) fun p hp hl hb => ?_
  obtain ⟨o0, e0⟩ := hC p hp
  have hbw := hl _ _ e0
  obtain ⟨g1, g2⟩ := heap_set (o' := o') (show w.heap[b]? = some _ from hbw)
  refine ⟨fun c hc hn => g2 c (fun e' => by rw [e', e0] at hn; cases hn), fun c => if c = b then some o' else p c, hC' _ (by simp), fun c o hc => ?_⟩
  dsimp only at hc
  split at hc
  · rename_i hcb; subst hcb; cases hc
    exact ⟨.inl (by rw [e0]; simp), g1⟩
  · rename_i hcb
    exact ⟨.inl (by rw [hc]; simp), by show (w.heap.setIfInBounds b o')[c]? = _; rw [g2 c hcb]; exact hl _ _ hc⟩
theorem Sat.atRec {k l : Nat} {r : Loop} (s : Sat w0 G w) (hk : G[k]? = some (recCh l r)) : w.heap[l]? = some (.loop r) := by
  obtain ⟨p, hp, hl, _⟩ := s.get k hk
  exact hl _ _ hp
theorem Sat.atDef {k d : Nat} {o : Option (List Deferred)} (s : Sat w0 G w) (hk : G[k]? = some (defCh d o)) : w.heap[d]? = some (.deferred o) := by
  obtain ⟨p, hp, hl, _⟩ := s.get k hk
  exact hl _ _ hp
theorem Sat.putRec {k l : Nat} {r r' : Loop} (s : Sat w0 G w) (hk : G[k]? = some (recCh l r)) : Sat w0 (G.set k (recCh l r')) (w.putObj l (.loop r')) :=
  s.setObj hk (fun p h => ⟨_, h⟩) (fun p h => h)
theorem Sat.putDef {k d : Nat} {o o' : Option (List Deferred)} (s : Sat w0 G w) (hk : G[k]? = some (defCh d o)) : Sat w0 (G.set k (defCh d o')) (w.putObj d (.deferred o')) :=
  s.setObj hk (fun p h => ⟨_, h⟩) (fun p h => h)
end
/-- A function in which such a loop stands. -/
theorem TR.enter {P : Program} {f : FuncId} {fn : Func} {c : Code} {args : List Value} {w : World} {R : Ending → World → Prop} {S : As} (hf : P.funcs[f]? = some fn) (hb : fn.body = some c) (hn : Nat.ble args.length fn.ntmps = true) (s : S w)
    (h : TR none P fn.ntmps c [] (frameOf 0 args) S (bodyPostM (WF none) 0 P fn R)) : Calls P f args.toArray w R := by
  refine (callsIn_wide (n := 0)).1 (callsIn_of_wp_marks hf hb trivial (h _ w ⟨⟨?_, rfl, fun i v hi => ?_⟩, rfl⟩ s) rfl)
  · have : args.length ≤ fn.ntmps := by simpa using hn
    simp [noDef]; omega
  · obtain ⟨_, h2⟩ := look_frameOf args 0 i v hi
    simp only [Nat.sub_zero] at h2
    have hlt := (List.getElem?_eq_some_iff.1 h2).1
    show (args.toArray ++ _)[i]? = _
    rw [Array.getElem?_append_left (by simpa using hlt)]
    simpa using h2
def coll (d : Nat) : Deferred := { target := .collected d, args := #[] }
section
variable {P : Program} {N : Nat} {ds : List Deferred} {fr : Fr} {w0 : World} {G : List Ch} {fn : Func} {R : Ending → World → Prop}
/-- The end, a mark among the deferred calls; nothing is told. -/
theorem CR.end0 (k : Nat) {d : Nat} (hk : G[k]? = some (defCh d (some []))) (hr : fn.results = #[]) (h : ∀ w, Sat w0 (G.set k (defCh d none)) w → R (.returned (.tuple #[])) w) : CR N (bodyPostM (WF none) 0 P fn R .normal) [coll d] fr (Sat w0 G) := fun a w kd s => by
  show LeavesInM _ _ _ _ _ _ a.defers _ _
  rw [kd.d]
  exact ⟨by simp, .inl ⟨d, _, rfl, run_takeDeferred (s.atDef hk), ⟨_, results_none hr _ _ _, h _ (s.putDef hk)⟩⟩⟩
theorem CR.endN (hr : fn.results = #[]) (h : ∀ w, Sat w0 G w → R (.returned (.tuple #[])) w) : CR N (bodyPostM (WF none) 0 P fn R .normal) [] fr (Sat w0 G) := fun a w kd s => by
  show LeavesInM _ _ _ _ _ _ a.defers _ _
  rw [kd.d]
  exact ⟨_, results_none hr _ _ _, h _ s⟩
theorem CR.retN (hr : fn.results = #[]) (h : ∀ w, Sat w0 G w → R (.returned (.tuple #[])) w) : CR N (bodyPostM (WF none) 0 P fn R .ret) [] fr (Sat w0 G) := fun a w kd s => by
  show LeavesInM _ _ _ _ _ _ a.defers _ _
  rw [kd.d]
  exact ⟨_, results_none hr _ _ _, h _ s⟩
/-- The loop, two variables: what the function that is ranged over promises, given its rounds (`hit`), and one round. G k : the chunks when k rounds are over. -/
theorem TR.range2 {g : Operand} {p q : Tmp} {assign body : Code} {Q : Po} {gf : Nat} {lb : Array Value} (hg : ev fr g = some (.func (.func gf) #[] lb)) (eg : ∀ args w, (callFunc gf args).run P w = .ok (.enter gf args) w)
    (hp : Nat.blt p N = true) (hq : Nat.blt q N = true) (v1 v2 : Nat → Value) (m : Nat) (GG : Nat → List Ch) (h0 : GG 0 = G) (frB : Nat → Fr)
    (hit : ∀ (l : Nat) (E : List Ch) (w : World), Sat w0 (GG 0 ++ E) w →
      (∀ k w1, k < m → Sat w0 (GG k ++ E) w1 → ∃ fn tmps assign body, (Instr.yield l #[v1 k, v2 k]).run P w1 = .ok (.round l fn tmps assign body) w1 ∧ RoundIn (WF none) 0 P l fn tmps assign body w1 fun e w' => e = .returned (.bool true) ∧ Sat w0 (GG (k + 1) ++ E) w') →
      CallsIn (WF none) 0 P gf (#[.func (.yield l) #[] #[]] ++ lb) w fun e w' => (∃ v, e = .returned v) ∧ Sat w0 (GG m ++ E) w')
    (hassign : ∀ l k E K, k < m → CR N K [] (frB k) (Sat w0 (GG k ++ E)) → TR (some l) P N assign [] ((q, v2 k) :: (p, v1 k) :: fr) (Sat w0 (GG k ++ E)) (Exit.then K fun _ _ _ => False))
    (hbody : ∀ l k E K, k < m → (∀ fr', CR N K [] fr' (Sat w0 (GG (k + 1) ++ E))) → TR (some l) P N body [] (frB k) (Sat w0 (GG k ++ E)) (Exit.then K fun _ _ _ => False))
    (hdone : ∀ D, CR N (Q .normal) (coll D :: ds) fr (Sat w0 (GG m ++ [defCh D (some [])]))) : TR none P N (.rangeFunc g #[p, q] assign body) ds fr (Sat w0 G) Q := by
  subst h0
  intro a w kd s
  refine wpIn_rangeFunc ?_
  intro fn hfn
  obtain ⟨rec, hrec⟩ : ∃ rec : LoopState → Option Code → Loop, rec = fun st pe => { state := st, pending := pe, fn, tmps := a.tmps, params := #[p, q], assign, body, defers := w.heap.size } := ⟨_, rfl⟩
  have s1 := (s.newObj (C := defCh w.heap.size (some [])) (o := .deferred (some [])) fun _ h => h).newObj (C := recCh (w.heap.size + 1) (rec .ready none)) (o := .loop (rec .ready none)) fun _ h => by rw [World.size_alloc] at h; exact h
  have ge : a.eval g = .func (.func gf) #[] lb := by rw [← eval_noDef]; exact kd.k.ev hg
  refine ⟨w.heap.size + 1, [coll w.heap.size], (w.alloc (.deferred (some []))).alloc (.loop (rec .ready none)), { target := .fn (.func gf) lb, args := #[.func (.yield (w.heap.size + 1)) #[] #[]] }, (w.alloc (.deferred (some []))).alloc (.loop (rec .ready none)), gf,
    #[.func (.yield (w.heap.size + 1)) #[] #[]] ++ lb, (w.alloc (.deferred (some []))).alloc (.loop (rec .ready none)), ?_, ?_, fun _ _ => trivial, ?_, fun h => (by cases h), ?_⟩
  · rw [hrec]; exact run_enterLoop_outer _ _ _ _ _
  · simp only [resolve, ge]
    simp [go_sem]
  · simp [invoke, go_sem, eg]
  · rw [List.append_assoc] at s1
    have hkR : ∀ k r, (GG k ++ ([defCh w.heap.size (some [])] ++ [recCh (w.heap.size + 1) r]))[(GG k).length + 1]? = some (recCh (w.heap.size + 1) r) := fun k r => by simp
    have hkS : ∀ k r r', (GG k ++ ([defCh w.heap.size (some [])] ++ [recCh (w.heap.size + 1) r])).set ((GG k).length + 1) (recCh (w.heap.size + 1) r') = GG k ++ ([defCh w.heap.size (some [])] ++ [recCh (w.heap.size + 1) r']) := fun k r r' => by simp
    refine (hit (w.heap.size + 1) ([defCh w.heap.size (some [])] ++ [recCh (w.heap.size + 1) (rec .ready none)]) _ s1 ?_).mono ?_
    · intro k w1 hkm s2
      have hl := s2.atRec (hkR k _)
      have hy := run_yield (P := P) (args := #[v1 k, v2 k]) hl (by rw [hrec]; rfl)
      rw [hrec] at hy
      refine ⟨fn, _, assign, body, hy, roundIn_of_wpIn trivial (hassign _ k _ _ hkm ?_ _ w1 ?_ s2)⟩
      · intro a2 w2 kd2 s3
        have hl2 := s3.atRec (hkR k _)
        refine ⟨_, run_beginRound hl2 (by rw [hrec]), ?_⟩
        have s4 := s3.putRec (r' := { rec .ready none with state := .busy }) (hkR k _)
        rw [hkS] at s4
        refine wpIn_mono (hbody (w.heap.size + 1) k _ (fun _ w' => Sat w0 (GG (k + 1) ++ ([defCh w.heap.size (some [])] ++ [recCh (w.heap.size + 1) { rec .ready none with state := .busy }])) w') hkm (fun _ _ _ _ s => s) a2 _ kd2 s4) ?_
        intro e a3 w3 hq3
        cases e with
        | normal =>
          have s5 : Sat w0 (GG (k + 1) ++ ([defCh w.heap.size (some [])] ++ [recCh (w.heap.size + 1) { rec .ready none with state := .busy }])) w3 := hq3
          have s6 := s5.putRec (r' := rec .ready none) (hkR (k + 1) _)
          rw [hkS] at s6
          have he := run_endRound (P := P) none (s5.atRec (hkR (k + 1) _))
          rw [hrec] at he s6
          exact ⟨_, _, he, rfl, by rw [hrec]; exact s6⟩
        | ret => exact hq3.elim
        | exit id => exact hq3.elim
        | goto t => exact hq3.elim
        | panic ch => exact hq3.elim
        | outgrown => exact hq3.elim
      · have k1 := (kd.k.putF (d := some p) hp (v1 k)).putF (d := some q) hq (v2 k)
        refine ⟨?_, rfl⟩
        have hn : ((noDef a).put (some p) (v1 k)).put (some q) (v2 k) = noDef { tmps := (#[p, q].zip #[v1 k, v2 k]).foldl (fun t (x : Tmp × Value) => t.setIfInBounds x.1 x.2) a.tmps, defers := [] } := by
          simp [noDef, Act.put]
        rw [hn] at k1
        exact k1
    · rintro e w2 ⟨⟨v, rfl⟩, s2⟩
      have hl := s2.atRec (hkR m _)
      have s3 := s2.putRec (r' := { rec .ready none with state := .exhausted }) (hkR m _)
      rw [hkS] at s3
      have he := run_endLoop (P := P) hl (by rw [hrec]; simp)
      rw [hrec] at he s3
      refine ⟨none, _, he, hdone w.heap.size _ _ ⟨?_, ?_⟩ ?_⟩
      · exact kd.k
      · show coll w.heap.size :: a.defers = _
        rw [kd.d]
      · refine s3.pick (List.range ((GG m).length + 1)) List.nodup_range ?_
        apply List.ext_getElem?
        intro j
        rw [← List.append_assoc]
        by_cases hj : j < (GG m).length + 1
        · simp only [List.getElem?_map, List.getElem?_range hj, Option.map_some]
          rw [List.getElem?_append_left (by simpa using hj)]
          cases he' : (GG m ++ [defCh w.heap.size (some [])])[j]? with
          | some C => rfl
          | none => rw [List.getElem?_eq_none_iff] at he'; simp at he'; omega
        · rw [List.getElem?_eq_none (by simpa using hj), List.getElem?_eq_none (by simpa using hj)]
end
end Go.Vg
namespace Go.Vg
section
variable {ro : Option Nat} {P : Program} {N : Nat} {ops : Array Oper} {Q : Po} {rest : List Oper} {ds : List Deferred} {fr : Fr} {S : As} {K : Act → World → Prop}
theorem RR.know {p : Prop} (hp : ∀ w, S w → p) (h : p → RR ro P N ops Q rest ds fr S) : RR ro P N ops Q rest ds fr S := fun a w k s => h (hp w s) a w k s
theorem TR.know {c : Code} {p : Prop} (hp : ∀ w, S w → p) (h : p → TR ro P N c ds fr S Q) : TR ro P N c ds fr S Q := fun a w k s => h (hp w s) a w k s
theorem TR.exitTo {id : Nat} (he : ExTo id Q K) (h : CR N K ds fr S) : TR ro P N (.exit id) ds fr S Q := TR.exit fun a w k s => he a w (h a w k s)
theorem TR.weakS {c : Code} {S' : As} (hs : ∀ w, S w → S' w) (h : TR ro P N c ds fr S' Q) : TR ro P N c ds fr S Q := fun a w k s => h a w k (hs w s)
end
end Go.Vg
