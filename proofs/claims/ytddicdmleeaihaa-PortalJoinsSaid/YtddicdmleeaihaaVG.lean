/-
  More operations: structs built, slices cut, least and greatest. For every program whose tables say what the lemma asks. A library of this claim's own.
-/
import Derived.Test.YtddicdmleeaihaaVF
import Derived.Laws.Small
set_option linter.unusedSimpArgs false
set_option linter.unusedVariables false
namespace Go.Vg
open Enc (R)

def stTy (P : Program) (t : TypeId) : Option (List Value × List (Nat × Nat)) :=
  match P.info? t, P.underlying t with
  | some it, some (.struct fields) =>
    match it.zero, fields.toList.mapM (fun f => (P.info? f.type).map fun i => (f.offset, i.size)) with
    | some z, some places => some (z.cells.toList, places)
    | _, _ => none
  | _, _ => none
theorem built_of {P : Program} {t : TypeId} {z : List Value} {pl : List (Nat × Nat)} (h : stTy P t = some (z, pl)) (vs : List (Nat × Value)) : P.built t vs = Instr.fill (pl.toArray[·]?) z.toArray vs := by
  unfold stTy at h
  unfold Program.built
  cases hit : P.info? t with
  | none => simp [hit] at h
  | some it =>
    cases hu : P.underlying t with
    | none => simp [hit, hu] at h
    | some d =>
      cases d <;> try (simp [hit, hu] at h; done)
      case struct fields =>
        cases hz : it.zero with
        | none => simp [hit, hu, hz] at h
        | some z' =>
          cases hp : fields.toList.mapM (fun f => (P.info? f.type).map fun i => (f.offset, i.size)) with
          | none => simp [hit, hu, hz, hp] at h
          | some places =>
            simp only [hit, hu, hz, hp, Option.some.injEq, Prod.mk.injEq] at h
            obtain ⟨rfl, rfl⟩ := h
            simp only [hz, hp, Array.toArray_toList]
def atTy (P : Program) (t : TypeId) : Option (List Value × Nat) :=
  match P.info? t, P.underlying t with
  | some it, some (.array _ e) =>
    match it.zero, P.info? e with
    | some z, some ie => some (z.cells.toList, ie.size)
    | _, _ => none
  | _, _ => none
theorem builtA_of {P : Program} {t : TypeId} {z : List Value} {sz : Nat} (h : atTy P t = some (z, sz)) (vs : List (Nat × Value)) : P.built t vs = Instr.fill (fun i => some (i * sz, sz)) z.toArray vs := by
  unfold atTy at h
  unfold Program.built
  cases hit : P.info? t with
  | none => simp [hit] at h
  | some it =>
    cases hu : P.underlying t with
    | none => simp [hit, hu] at h
    | some d =>
      cases d <;> try (simp [hit, hu] at h; done)
      case array n e =>
        cases hz : it.zero with
        | none => simp [hit, hu, hz] at h
        | some z' =>
          cases hp : P.info? e with
          | none => simp [hit, hu, hz, hp] at h
          | some ie =>
            simp only [hit, hu, hz, hp, Option.some.injEq, Prod.mk.injEq] at h
            obtain ⟨rfl, rfl⟩ := h
            simp only [hz, hp, Array.toArray_toList]

section
variable {P : Program} {n : Nat} {fr : Fr} {dst : Option Tmp} {ty : TypeId} {pos : String} {aft : Array Edge} {g : Option (Nat × Bool)} {S : As} {w0 : World} {G : List Ch}
theorem Pu.build {t : TypeId} {z : List Value} {pl : List (Nat × Nat)} {xs : List (Nat × Operand)} {vs : List (Nat × Value)} {cells : List Value} (ht : stTy P t = some (z, pl)) (hx : evp fr xs = some vs) (hc : fillL (pl[·]?) z vs = some cells) :
    Pu P n ⟨dst, .build t xs.toArray, ty, pos, aft, g⟩ fr (.agg cells.toArray) := fun a k w => by
  have hv := k.evp hx
  have hm : (xs.toArray.map fun x => match x with | (i, x) => (i, a.eval x)).toList = vs := by simp; exact hv
  have := run_build (P := P) w t (xs.toArray.map fun (i, x) => (i, a.eval x)) cells.toArray (by rw [hm, built_of ht]; simpa using fill_of hc)
  simp only [execOp, Sem.run_bind, this, Result.andThen_ok, Sem.run_pure]
theorem Pu.buildAr {t : TypeId} {z : List Value} {sz : Nat} {xs : List (Nat × Operand)} {vs : List (Nat × Value)} {cells : List Value} (ht : atTy P t = some (z, sz)) (hx : evp fr xs = some vs) (hc : fillL (fun i => some (i * sz, sz)) z vs = some cells) :
    Pu P n ⟨dst, .build t xs.toArray, ty, pos, aft, g⟩ fr (.agg cells.toArray) := fun a k w => by
  have hv := k.evp hx
  have hm : (xs.toArray.map fun x => match x with | (i, x) => (i, a.eval x)).toList = vs := by simp; exact hv
  have := run_build (P := P) w t (xs.toArray.map fun (i, x) => (i, a.eval x)) cells.toArray (by rw [hm, builtA_of ht]; exact fill_of hc)
  simp only [execOp, Sem.run_bind, this, Result.andThen_ok, Sem.run_pure]
theorem Pu.maxI {x y : Operand} {ts : Array TypeId} {k k' : IntKind} {a b : Int} (hx : ev fr x = some (.int k a)) (hy : ev fr y = some (.int k' b)) :
    Pu P n ⟨dst, .call { callee := .builtin .max, args := #[x, y], argTypes := ts }, ty, pos, aft, g⟩ fr (.int k (max a b)) := fun ac kn w => by
  have h := run_max_int2 (P := P) w ts ty k k' a b
  have e : (if b > a then b else a) = max a b := by rw [Int.max_def]; split <;> split <;> omega
  rw [e] at h
  simp [execOp, resolve, invoke, builtin, kn.ev hx, kn.ev hy, h]
theorem Pu.minI {x y : Operand} {ts : Array TypeId} {k k' : IntKind} {a b : Int} (hx : ev fr x = some (.int k a)) (hy : ev fr y = some (.int k' b)) :
    Pu P n ⟨dst, .call { callee := .builtin .min, args := #[x, y], argTypes := ts }, ty, pos, aft, g⟩ fr (.int k (min a b)) := fun ac kn w => by
  have h := run_min_int2 (P := P) w ts ty k k' a b
  have e : (if b < a then b else a) = min a b := by rw [Int.min_def]; split <;> split <;> omega
  rw [e] at h
  simp [execOp, resolve, invoke, builtin, kn.ev hx, kn.ev hy, h]

/-! ### Slices of slices -/
def cutP (p : Option Addr) (cap l sz : Nat) : Option Addr := if cap = l then p else p.map (·.add (l * sz))
theorem run_sliceOf {t e : TypeId} {sz by' len cap : Nat} {p : Option Addr} (ht : slTy P t = some (e, sz, by')) (lo hi : Option Value) (l h : Nat) (w : World) (hb : (Instr.sliceBounds true len cap lo hi none).run P w = .ok (l, h, cap) w) :
    (Instr.sliceAt t (.slice p len cap) lo hi none).run P w = .ok (.slice (cutP p cap l sz) (h - l) (cap - l)) w := by
  obtain ⟨h1, inf, h2, rfl, _⟩ := slTy_spec ht
  simp [Instr.sliceAt, Instr.slice, run_underlying h1, hb, run_sizeOf_info h2, cutP]
theorem Pu.sliceL {t e : TypeId} {x lo : Operand} {sz by' len cap : Nat} {p : Option Addr} {k : IntKind} {j : Int} (ht : slTy P t = some (e, sz, by')) (hx : ev fr x = some (.slice p len cap)) (hl : ev fr lo = some (.int k j)) (h : 0 ≤ j ∧ j ≤ len) :
    Pu P n ⟨dst, .slice t x (some lo) none none, ty, pos, aft, g⟩ fr (.slice (cutP p cap j.toNat sz) (len - j.toNat) (cap - j.toNat)) := fun a kn w => by
  have := run_sliceOf (P := P) (p := p) ht (some (.int k j)) none j.toNat len w (cap := cap) (len := len) (by simp [Instr.sliceBounds, Instr.sliceBound, asIntOf, h.1, h.2])
  simp only [execOp, kn.ev hx, Option.map_some, Option.map_none, kn.ev hl, Sem.run_bind, this, Result.andThen_ok, Sem.run_pure]
theorem Pu.sliceLH {t e : TypeId} {x lo hi : Operand} {sz by' len cap : Nat} {p : Option Addr} {k k' : IntKind} {j i : Int} (ht : slTy P t = some (e, sz, by')) (hx : ev fr x = some (.slice p len cap)) (hl : ev fr lo = some (.int k j)) (hh : ev fr hi = some (.int k' i)) (h : 0 ≤ j ∧ j ≤ i ∧ i ≤ cap) :
    Pu P n ⟨dst, .slice t x (some lo) (some hi) none, ty, pos, aft, g⟩ fr (.slice (cutP p cap j.toNat sz) (i.toNat - j.toNat) (cap - j.toNat)) := fun a kn w => by
  have h0 : 0 ≤ i := by omega
  have hm : max i 0 = i := by omega
  have := run_sliceOf (P := P) (p := p) ht (some (.int k j)) (some (.int k' i)) j.toNat i.toNat w (cap := cap) (len := len) (by simp [Instr.sliceBounds, Instr.sliceBound, asIntOf, h.1, h.2.1, h.2.2, h0, hm])
  simp only [execOp, kn.ev hx, Option.map_some, Option.map_none, kn.ev hl, kn.ev hh, Sem.run_bind, this, Result.andThen_ok, Sem.run_pure]
/-- What a slice of a slice reads as. -/
theorem cut_reads {α : Type} [Enc α] {h : Hp} {xs : List α} {p : Option Addr} {len cap : Nat} (hr : R h xs [.slice p len cap]) {l k : Nat} (hlk : l ≤ k) (hk : k ≤ xs.length) :
    R h ((xs.take k).drop l) [.slice (cutP p cap l (Enc.sz α)) (k - l) (cap - l)] := by
  obtain ⟨p', cap', e, h1, h2, h3⟩ := hr
  simp at e
  obtain ⟨rfl, rfl, rfl⟩ := e
  refine ⟨cutP p cap l (Enc.sz α), cap - l, by simp [Nat.min_eq_left hk], by simp; omega, by unfold maxLen at *; omega, ?_⟩
  rcases h3 with rfl | ⟨b, o, cs, rfl, hr, ha⟩
  · left; simp
  · by_cases hc : cap = l
    · left
      apply List.eq_nil_of_length_eq_zero
      simp; omega
    · right
      refine ⟨b, o + l * Enc.sz α, (cs.take (k * Enc.sz α)).drop (l * Enc.sz α), by simp [cutP, hc, add_lit], (hr.take k).drop l, ?_⟩
      obtain ⟨c, t, f, hb, hg⟩ := ha
      refine ⟨c, t, f, hb, fun j v hj => ?_⟩
      rw [List.getElem?_drop, List.getElem?_take] at hj
      split at hj
      · rw [Nat.add_assoc]; exact hg _ _ hj
      · cases hj
theorem take_reads {α : Type} [Enc α] {h : Hp} {xs : List α} {p : Option Addr} {len cap : Nat} (hr : R h xs [.slice p len cap]) {k : Nat} (hk : k ≤ xs.length) :
    R h (xs.take k) [.slice p k cap] := by
  have := cut_reads hr (Nat.zero_le k) hk
  have e : cutP p cap 0 (Enc.sz α) = p := by unfold cutP; split <;> cases p <;> simp [Addr.add]
  simpa [e] using this
theorem drop_reads {α : Type} [Enc α] {h : Hp} {xs : List α} {p : Option Addr} {len cap : Nat} (hr : R h xs [.slice p len cap]) {l : Nat} (hl : l ≤ xs.length) :
    R h (xs.drop l) [.slice (cutP p cap l (Enc.sz α)) (len - l) (cap - l)] := by
  have hlen : len = xs.length := by obtain ⟨p', cap', e, _⟩ := hr; simp at e; exact e.2.1
  have := cut_reads hr hl (Nat.le_refl _)
  rw [List.take_length] at this
  rw [hlen]; exact this
end

/-! ### A list read off a slice -/
theorem R_len {α : Type} [Enc α] {h : Hp} {xs : List α} {p : Option Addr} {len cap : Nat} (hr : R h xs [.slice p len cap]) : len = xs.length ∧ len ≤ cap ∧ cap ≤ maxLen := by
  obtain ⟨p', cap', e, h1, h2, _⟩ := hr
  simp at e
  obtain ⟨rfl, rfl, rfl⟩ := e
  exact ⟨rfl, h1, h2⟩
theorem R_form {α : Type} [Enc α] {h : Hp} {xs : List α} {v : Value} (hr : R h xs [v]) : ∃ p cap, v = .slice p xs.length cap := by
  obtain ⟨p, cap, e, _⟩ := hr
  simp at e
  exact ⟨p, cap, e⟩
theorem R_ptr {α : Type} [Enc α] {h : Hp} {xs : List α} {p : Option Addr} {len cap : Nat} (hr : R h xs [.slice p len cap]) (hne : xs ≠ []) : ∃ b o, p = some ⟨b, o, none⟩ := by
  obtain ⟨p', cap', e, _, _, h3⟩ := hr
  simp at e
  obtain ⟨rfl, rfl, rfl⟩ := e
  rcases h3 with rfl | ⟨b, o, cs, rfl, _⟩
  · exact absurd rfl hne
  · exact ⟨b, o, rfl⟩
theorem Sat.drop1 {w0 w : World} {G D : List Ch} (h : Sat w0 (G ++ D) w) : Sat w0 G w := by
  obtain ⟨e, own, h2⟩ := h
  refine ⟨e, own, fun i C hi => h2 i C ?_⟩
  rw [List.getElem?_append_left (List.getElem?_eq_some_iff.1 hi).1]; exact hi
/-- A row that is not empty has an array. -/
theorem Sat.row_some {α : Type} [Enc α] {w0 w : World} {G : List Ch} {k m : Nat} {B : Hp} {e : TypeId} {q : Option Nat × Nat} {xs : List α} (h : Sat w0 G w) (hk : G[k]? = some (row B e (rowV q m) xs)) (hne : 0 < xs.length) : ∃ g cap, q = (some g, cap) := by
  obtain ⟨p, hp, _⟩ := h.get k hk
  rcases hp with ⟨_, rfl⟩ | ⟨g, cap, cs, sp, hv, _⟩
  · simp at hne
  · obtain ⟨o, c⟩ := q
    cases o with
    | none => simp [rowV] at hv
    | some g' => exact ⟨g', c, rfl⟩
theorem Sat.row_cap {α : Type} [Enc α] {w0 w : World} {G : List Ch} {k : Nat} {B : Hp} {e : TypeId} {q : Option Nat × Nat} {xs : List α} (h : Sat w0 G w) (hk : G[k]? = some (row B e (rowV q xs.length) xs)) : xs.length ≤ q.2 := by
  obtain ⟨p, hp, _⟩ := h.get k hk
  rcases hp with ⟨_, rfl⟩ | ⟨g, cap, cs, sp, hv, _, hle, _⟩
  · simp
  · obtain ⟨o, c⟩ := q
    simp only [rowV, Value.slice.injEq] at hv
    show xs.length ≤ c
    omega
/-- A row cut short. -/
theorem row_take {α : Type} [Enc α] {B : Hp} {e : TypeId} {q : Option Nat × Nat} {m k : Nat} {xs : List α} {p : Hp} (h : row B e (rowV q m) xs p) (hk : k ≤ xs.length) (hq : q.1.isSome = true) : row B e (rowV q k) (xs.take k) p := by
  rcases h with ⟨hv, rfl⟩ | ⟨g, cap, cs, sp, hv, h1, h2, h3, h4, h5⟩
  · obtain ⟨o, c⟩ := q
    cases o with
    | none => cases hq
    | some g => simp [rowV] at hv
  · obtain ⟨o, c⟩ := q
    cases o with
    | none => cases hq
    | some g' =>
      simp only [rowV, Value.slice.injEq, Option.map_some, Option.some.injEq, Addr.mk.injEq, and_true] at hv
      obtain ⟨rfl, rfl, rfl⟩ := hv
      have hl := h5.length
      refine .inr ⟨g', c, cs.take (k * Enc.sz α), cs.drop (k * Enc.sz α) ++ sp, by simp [rowV, Nat.min_eq_left hk], by rw [← List.append_assoc, List.take_append_drop]; exact h1, by simp; omega, h3, ?_, h5.take k⟩
      rw [← List.append_assoc, List.take_append_drop]; exact h4
theorem ieq {k : IntKind} {a b : Int} (h : a = b) : some (Value.int k a) = some (Value.int k b) := by rw [h]
end Go.Vg
