/-
  Arrays: a block of numbers, its elements by an integer's index, a slice of it; results that lie in a cell. For every program whose tables say what the lemma asks. A library of this claim's own.
-/
import Derived.Test.YtddicdmleeaihaaVJ
import Derived.Laws.Cover3
set_option linter.unusedSimpArgs false
set_option linter.unusedVariables false
namespace Go.Vg
open Enc (R)

section
variable {P : Program} {n : Nat} {fr : Fr} {dst : Option Tmp} {ty : TypeId} {pos : String} {aft : Array Edge} {g : Option (Nat × Bool)} {S : As} {w0 : World} {G : List Ch} {Q : Po}
/-- A result that is an array or a struct in a block of its own. -/
theorem Cont.retC {fn : Func} {R : Ending → World → Prop} {t ty sz b : Nat} {e : TypeId} {cs : List Value} (k : Nat) (hr : fn.results = #[.cell t ty]) (ht : tySz P ty = some (sz, true)) (hv : look fr t = some (.pointer (some ⟨b, 0, none⟩)))
    (hk : G[k]? = some (blk b cs e)) (hl : cs.length = sz) (h : ∀ w, Sat w0 G w → R (.returned (.agg cs.toArray)) w) : Cont n (bodyPost P fn R .ret) fr (Sat w0 G) := fun a w kn s => by
  have hld := run_loadVarA (P := P) (w := w) (b := b) (o := 0) ht hl (fun j v hj => by
    have := (s.getBlk hk).1
    simp [World.cell?, this, hj])
  have hp := kn.getD hv
  refine bodyPost_ret (v := .agg cs.toArray) ?_ kn.defers (h w s)
  have hp' : a.tmps[t]?.getD undef = .pointer (some ⟨b, 0, none⟩) := by simpa [Array.getD_eq_getD_getElem?] using hp
  simp [results, hr, hp', asAddr, hld]

def nums (L : List Int) : List Value := L.map (.int .i64)
theorem nums_get {L : List Int} {j : Int} (h : 0 ≤ j ∧ j < L.length) : (nums L)[j.toNat]? = some (.int .i64 (gi L j)) := by
  unfold nums; rw [List.getElem?_map, gi_get h]; rfl
theorem nums_set {L : List Int} {j : Int} {x : Int} (h : 0 ≤ j ∧ j < L.length) : (nums L).take j.toNat ++ [.int .i64 x] ++ (nums L).drop (j.toNat + 1) = nums (si L j x) := by
  unfold nums si
  rw [List.map_set, List.set_eq_take_append_cons_drop, if_pos (by simp; omega)]
  simp
theorem Qt.ldAr (k : Nat) {t e : TypeId} {x : Operand} {b sz : Nat} {ji : Int} {L : List Int} (ht : tySz P t = some (1, false)) (hx : ev fr x = some (.pointer (some ⟨b, 0 + ji.toNat * sz, none⟩))) (hsz : sz = 1) (hk : G[k]? = some (blk b (nums L) e)) (hj : 0 ≤ ji ∧ ji < L.length) :
    Qt P n ⟨dst, .load t x, ty, pos, aft, g⟩ fr (Sat w0 G) (.int .i64 (gi L ji)) := Qt.ld ht hx fun w s => by
  subst hsz
  have := nums_get hj
  simp [World.cell?, (s.getBlk hk).1, this]
theorem Sd.stAr (k : Nat) {t e : TypeId} {x y : Operand} {b sz : Nat} {ji : Int} {gg : Bool} {L : List Int} {x1 : Int} (ht : tySz P t = some (1, gg)) (hx : ev fr x = some (.pointer (some ⟨b, 0 + ji.toNat * sz, none⟩))) (hsz : sz = 1) (hy : ev fr y = some (.int .i64 x1))
    (hk : G[k]? = some (blk b (nums L) e)) (hj : 0 ≤ ji ∧ ji < L.length) :
    Sd P n ⟨none, .store t x y, ty, pos, aft, g⟩ fr (Sat w0 G) (fun _ : Unit => undef) (fun _ => Sat w0 (G.set k (blk b (nums (si L ji x1)) e))) :=
  Sd.stB k ht hx hy hk rfl rfl (by subst hsz; apply Nat.ble_eq_true_of_le; simp [nums]; omega) rfl (by subst hsz; rw [show 0 + ji.toNat * 1 = ji.toNat by omega]; exact nums_set hj)
/-- The first elements of an array, as a slice. -/
theorem Pu.sliceArH {t e : TypeId} {x hi : Operand} {len sz b o : Nat} {k : IntKind} {j : Int} (ht : arTy P t = some (len, e, sz)) (hx : ev fr x = some (.pointer (some ⟨b, o, none⟩))) (hh : ev fr hi = some (.int k j)) (h : 0 ≤ j ∧ j ≤ len) :
    Pu P n ⟨dst, .slice t x none (some hi) none, ty, pos, aft, g⟩ fr (.slice (some ⟨b, o, none⟩) j.toNat len) := fun a kn w => by
  obtain ⟨h1, inf, h2, rfl⟩ := arTy_spec ht
  have hb : (Instr.sliceBounds false len len none (some (.int k j)) none).run P w = .ok (0, j.toNat, len) w := by
    simp [Instr.sliceBounds, Instr.sliceBound, asIntOf, h.1, h.2]
  have : (Instr.sliceAt t (.pointer (some ⟨b, o, none⟩)) none (some (.int k j)) none).run P w = .ok (.slice (some ⟨b, o, none⟩) j.toNat len) w := by
    simp [Instr.sliceAt, Instr.sureAddr, run_underlying h1, hb, run_sizeOf_info h2, Addr.add]
  simp only [execOp, kn.ev hx, Option.map_some, Option.map_none, kn.ev hh, Sem.run_bind, this, Result.andThen_ok, Sem.run_pure]
theorem run_isAgg_sz {t sz : Nat} {gg : Bool} (h : tySz P t = some (sz, gg)) (w : World) : (isAgg t).run P w = .ok gg w := by simp [run_isAgg_of h]
/-- An element of an array that is a value. -/
theorem Pu.indexV {t e : TypeId} {x i : Operand} {sz len : Nat} {k : IntKind} {j : Int} {cs us : Array Value} (ht : arTy P t = some (len, e, sz)) (he : tySz P e = some (sz, true)) (hx : ev fr x = some (.agg cs)) (hi : ev fr i = some (.int k j)) (h : 0 ≤ j ∧ j < len)
    (hu : cs.extract (j.toNat * sz) (j.toNat * sz + sz) = us) : Pu P n ⟨dst, .index t x i, ty, pos, aft, g⟩ fr (.agg us) := fun a kn w => by
  obtain ⟨h1, inf, h2, rfl⟩ := arTy_spec ht
  have hr : (Instr.index t (.agg cs) (.int k j)).run P w = .ok (.agg us) w := by
    simp [Instr.index, asIntOf, run_underlying h1, run_sizeOf_info h2, h.1, h.2, part, run_isAgg_of he, hu]
  simp only [execOp, kn.ev hx, kn.ev hi, Sem.run_bind, hr, Result.andThen_ok, Sem.run_pure]
/-- A slice against nil. -/
theorem Pu.eqNilSl {xt yt e : TypeId} {x : Operand} {p : Option Addr} {l c : Nat} (ht : P.underlying xt = some (.slice e)) (hx : ev fr x = some (.slice p l c)) :
    Pu P n ⟨dst, .binOp .eql xt x (.const (.slice none 0 0)) yt, ty, pos, aft, g⟩ fr (.bool p.isNone) := fun ac kn w => by
  have h := Go.run_equal_slice_nil (P := P) (w := w) xt e p l c ht
  have hc : ac.eval (.const (.slice none 0 0)) = .slice none 0 0 := rfl
  simp [execOp, kn.ev hx, hc, eqGuard, binOp, h]
/-- A slice of nothing that is not nil. -/
theorem Sd.lit0 {α : Type} [Enc α] {t e : TypeId} {by' : Nat} {B : Hp} (ht : slTy P t = some (e, Enc.sz α, by')) :
    Sd P n ⟨dst, .buildSlice t 0 #[], ty, pos, aft, g⟩ fr (Sat w0 G) (fun b : Nat => .slice (some ⟨b, 0, none⟩) 0 0) (fun b => Sat w0 (G ++ [row B e (.slice (some ⟨b, 0, none⟩) 0 0) ([] : List α)])) := fun a w k s => by
  obtain ⟨hu, i, hi, hsz, _⟩ := slTy_spec ht
  have : (execOp a.eval ⟨dst, .buildSlice t 0 #[], ty, pos, aft, g⟩).run P w = .ok (.value (.slice (some ⟨w.heap.size, 0, none⟩) 0 0)) (w.alloc (.cells ([] ++ [] : List Value).toArray e)) := by
    simp [execOp, Instr.buildSlice, run_underlying hu, run_sizeOf_info hi, Instr.fill, newRow]
    have hz : (Array.range 0).size = 0 := by simp
    rw [Array.eq_empty_of_size_eq_zero (xs := Array.map _ (Array.range 0)) (by rw [Array.size_map]; exact hz)]
  rw [this]
  exact ⟨w.heap.size, rfl, s.newRow (α := α) rfl (Ext.refl w) B e [] [] 0 [] (Nat.le_refl _) (Nat.zero_le _) (by simp) rfl⟩
/-- append(s, l...): l came in. -/
theorem Sd.appB {α : Type} [Enc α] [Flat α] (k : Nat) {B : Hp} (hB : ∀ b o, B b = some o → b < w0.heap.size) {x y : Operand} {t e : TypeId} {by' : Nat} {z v : Value} {xs ys : List α} {q : Addr} {m c : Nat} (hk : G[k]? = some (row B e v xs))
    (ht : slTy P t = some (e, Enc.sz α, by')) (hz : zeroOf P e = some z) (hzs : z.cells.size = Enc.sz α) (hx : ev fr x = some v) (hy : ev fr y = some (.slice (some q) m c)) (hR : R (hpOf w0) ys [.slice (some q) m c])
    (hbytes : (xs.length + m) * by' ≤ 140737488355328) (h63 : xs.length + m ≤ maxLen) :
    Sd P n ⟨dst, .call { callee := .builtin .append, args := #[x, y], argTypes := #[t, t] }, ty, pos, aft, g⟩ fr (Sat w0 G) (fun q => rowV q (xs.length + m)) (fun q => Sat w0 (G.set k (row B e (rowV q (xs.length + m)) (xs ++ ys)))) := by
  obtain ⟨p', cap', e', s1, s2, s3⟩ := hR
  simp only [List.cons.injEq, Value.slice.injEq, and_true] at e'
  obtain ⟨rfl, rfl, rfl⟩ := e'
  rcases s3 with rfl | ⟨b, o, cs, hq, hr, ha⟩
  · exact Sd.app (ys := []) (news := []) k hk hB ht hz hzs hx hy (rowAnd_flat (h0 := nilH) (by simp [RF])) rfl (fun w s j u hj => by simp at hj) hbytes h63
  · cases hq
    exact Sd.app (news := cs) k hk hB ht hz hzs hx hy (rowAnd_flat hr) rfl (fun w s j u hj => by rw [add_lit]; exact (ha.mono s.ext.hp).cell hj) hbytes h63
end
end Go.Vg
