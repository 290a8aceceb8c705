/-
  From a row's reading to the walk's, and from the walk's end to the row's: an argument that reads as data is a list, a struct, a number of Lean ('Rdbl'); where a call leaves all that was as it was, the conclusion of a law's row holds ('post_ext'). For every program whose tables say what the lemma asks. A library of this claim's own.
-/
import Derived.Test.YtddicdmleeaihaaVG
import Derived.Test.YtddicdmleeaihaaRows
import Derived.WalkKit
import Derived.ProofKit
import Derived.OpenShut
import Derived.Carry
import Derived.ChangeArms
import Derived.ChangeSame
import Derived.DataReads
import Derived.Deep.Slices
import Derived.SizedLaws
set_option linter.unusedSimpArgs false
set_option linter.unusedVariables false
namespace Go.Vg
open Go.ChangeShapes Go.WideShapes Go.RowKit
open Enc (R)

/-- A struct's fields: types and places. -/
def structOf (P : Program) (t : TypeId) : Option (List (Nat × Nat)) := match P.underlying t with
  | some (.struct fs) => some (fs.toList.map fun f => (f.type, f.offset))
  | _ => none
theorem structOf_spec {P : Program} {t : TypeId} {l : List (Nat × Nat)} (h : structOf P t = some l) : ∃ fs, P.underlying t = some (.struct fs) ∧ fs.toList.map (fun f => (f.type, f.offset)) = l := by
  unfold structOf at h
  split at h
  · rename_i fs hu; exact ⟨fs, hu, Option.some.inj h⟩
  · cases h

/-- A reading that is no greater than the form lets in. -/
def Zd {H : Type} (P : Program) (t : TypeId) (d : DataW H) : Prop := ∀ n ∈ d.weights P t, n ≤ reachBytes
theorem Zd.each {H : Type} {P : Program} {ts : List TypeId} {ds : List (DataW H)} (h : (DataW.weightsEach P ts ds).all (· ≤ reachBytes) = true) {j : Nat} {t : TypeId} {d : DataW H} (ht : ts[j]? = some t) (hd : ds[j]? = some d) : Zd P t d := fun n hn => by
  have := List.all_eq_true.1 h n (DataW.weights_mem_each ht hd n hn)
  simpa using this
theorem weights_mem_all {H : Type} {P : Program} {e : TypeId} {d : DataW H} {n : Nat} (hn : n ∈ d.weights P e) : ∀ {l : List (DataW H)}, d ∈ l → n ∈ DataW.weightsAll P e l
  | x :: l, h => by
    rw [DataW.weightsAll, List.mem_append]
    rcases List.mem_cons.1 h with rfl | h
    · exact .inl hn
    · exact .inr (weights_mem_all hn h)
/-- Every reading of such a type is one of these. -/
def Rdbl (P : Program) (t : TypeId) (α : Type) [Enc α] (Wf : α → Prop) : Prop :=
  ∀ (H : Type) (enc : TypeId × Value → H) (w : World) (fuel : Nat) (cs : List Value) (x : DataW H × List MemPlace), DataW.trod enc P w 0 (fun _ => true) true fuel t cs = some x → Zd P t x.1 → ∃ a : α, R (hpOf w) a cs ∧ Wf a

def I64 (i : Int) : Prop := -9223372036854775808 ≤ i ∧ i ≤ 9223372036854775807

section
variable {P : Program} {t : TypeId}
theorem Rdbl.int (ht : P.underlying t = some (.int .i64)) : Rdbl P t Int I64 := fun H enc w fuel cs x h _ => by
  obtain ⟨i, e, _, hw⟩ := DataW.trod_int ht h
  refine ⟨i, e, ?_⟩
  simpa [Lit.wf, IntKind.min, IntKind.max, IntKind.signed, IntKind.bits, I64] using hw
theorem Rdbl.u8 (ht : P.underlying t = some (.int .u8)) : Rdbl P t UInt8 (fun _ => True) := fun H enc w fuel cs x h _ => by
  obtain ⟨i, e, _, hw⟩ := DataW.trod_int ht h
  have hw' : 0 ≤ i ∧ i ≤ 255 := by simpa [Lit.wf, IntKind.min, IntKind.max, IntKind.signed, IntKind.bits] using hw
  refine ⟨UInt8.ofNat i.toNat, ?_, trivial⟩
  show cs = [.int .u8 ((UInt8.ofNat i.toNat).toNat : Int)]
  rw [e]
  simp only [UInt8.toNat_ofNat']
  rw [Nat.mod_eq_of_lt (by omega)]
  congr 2; omega
theorem Rdbl.u64 (ht : P.underlying t = some (.int .u64)) : Rdbl P t UInt64 (fun _ => True) := fun H enc w fuel cs x h _ => by
  obtain ⟨i, e, _, hw⟩ := DataW.trod_int ht h
  have hw' : 0 ≤ i ∧ i ≤ 18446744073709551615 := by simpa [Lit.wf, IntKind.min, IntKind.max, IntKind.signed, IntKind.bits] using hw
  refine ⟨UInt64.ofNat i.toNat, ?_, trivial⟩
  show cs = [.int .u64 ((UInt64.ofNat i.toNat).toNat : Int)]
  rw [e]
  simp only [UInt64.toNat_ofNat']
  rw [Nat.mod_eq_of_lt (by omega)]
  congr 2; omega
theorem Rdbl.bool (ht : P.underlying t = some .bool) : Rdbl P t Bool (fun _ => True) := fun H enc w fuel cs x h _ => by
  obtain ⟨b, e, _⟩ := DataW.trod_bool ht h
  exact ⟨b, e, trivial⟩
theorem Rdbl.mono {α : Type} [Enc α] {W W' : α → Prop} (h : Rdbl P t α W) (hw : ∀ a, W a → W' a) : Rdbl P t α W' := fun H enc w fuel cs x hx hz =>
  let ⟨a, ha, hb⟩ := h H enc w fuel cs x hx hz; ⟨a, ha, hw a hb⟩

/-- A part of a struct. -/
theorem Rdbl.part {α : Type} [Enc α] {Wf : α → Prop} {ft : TypeId} (hf : Rdbl P ft α Wf) {H : Type} {enc : TypeId × Value → H} {w : World} {n : Nat} {cs : List Value} {x : DataW H × List MemPlace}
    (h : DataW.trod enc P w 0 (fun _ => true) true n ft cs = some x ∧ Zd P ft x.1) : ∃ a : α, R (hpOf w) a cs ∧ Wf a := hf H enc w n cs x h.1 h.2
theorem trod_field {fs : Array Field} (ht : P.underlying t = some (.struct fs)) {H : Type} {enc : TypeId × Value → H} {w : World} {n : Nat} {cs : List Value} {x : DataW H × List MemPlace}
    (h : DataW.trod enc P w 0 (fun _ => true) true n t cs = some x) (hz : Zd P t x.1) : cs.length = P.cellsOf t ∧ ∃ m, ∀ (i : Nat) (f : Field), fs[i]? = some f → ∃ y, DataW.trod enc P w 0 (fun _ => true) true m f.type ((cs.drop f.offset).take (P.cellsOf f.type)) = some y ∧ Zd P f.type y.1 := by
  obtain ⟨xs, m, _, hx, hl, hlen, hf⟩ := DataW.trod_struct ht h
  refine ⟨hl, m, fun i f hi => ?_⟩
  have hlt : i < xs.length := by rw [hlen]; exact (Array.getElem?_eq_some_iff.1 hi).1
  refine ⟨xs[i], by rw [hf i f hi, List.getElem?_eq_getElem hlt], fun q hq => hz q ?_⟩
  rw [hx]
  show q ∈ DataW.weights P t (.agg (xs.map (·.1)))
  rw [DataW.weights, ht]
  exact DataW.weights_mem_each (j := i) (t := f.type) (by rw [List.getElem?_map, Array.getElem?_toList, hi]; rfl) (by rw [List.getElem?_map, List.getElem?_eq_getElem hlt]; rfl) q hq

/-- Elements one behind the other, from each one's own cells. -/
theorem RF_of {α : Type} [Enc α] {Wf : α → Prop} {w : World} {b : Nat} {c : Array Value} {ty : TypeId} {fz : Nat × Nat} (hb : w.heap[b]? = some (.cells c ty fz)) : ∀ (len o : Nat),
    (∀ i, i < len → ∃ (a : α) (cs : List Value), R (hpOf w) a cs ∧ Wf a ∧ ∀ j, j < Enc.sz α → w.cell? ⟨b, o + i * Enc.sz α + j, none⟩ = cs[j]?) →
    ∃ (xs : List α) (cs : List Value), xs.length = len ∧ RF (hpOf w) xs cs ∧ (∀ x ∈ xs, Wf x) ∧ ∀ j v, cs[j]? = some v → c[o + j]? = some v
  | 0, o, _ => ⟨[], [], rfl, rfl, fun _ h => by simp at h, fun j v h => by simp at h⟩
  | n + 1, o, h => by
    obtain ⟨a, cs, ha, hw, hc⟩ := h 0 (by omega)
    obtain ⟨xs, ds, hl, hr, hwf, hd⟩ := RF_of hb n (o + Enc.sz α) (fun i hi => by
      obtain ⟨a, cs, h1, h2, h3⟩ := h (i + 1) (by omega)
      refine ⟨a, cs, h1, h2, fun j hj => ?_⟩
      have := h3 j hj
      rwa [show o + (i + 1) * Enc.sz α + j = o + Enc.sz α + i * Enc.sz α + j by rw [Nat.add_mul]; omega] at this)
    have hcl := Enc.len ha
    refine ⟨a :: xs, cs ++ ds, by simp [hl], ⟨cs, ds, rfl, ha, hr⟩, fun x hx => ?_, fun j v hj => ?_⟩
    · rcases List.mem_cons.1 hx with rfl | hx
      · exact hw
      · exact hwf x hx
    · rw [List.getElem?_append] at hj
      split at hj
      · have := hc j (by omega)
        rw [hj] at this
        simp only [World.cell?, hb, Option.isSome_none, Bool.false_eq_true, if_false] at this
        rwa [show o + 0 * Enc.sz α + j = o + j by omega] at this
      · have := hd (j - cs.length) v hj
        rwa [show o + Enc.sz α + (j - cs.length) = o + j by omega] at this

theorem Rdbl.slice {e : TypeId} {α : Type} [Enc α] {Wf : α → Prop} (ht : P.underlying t = some (.slice e)) (hs : P.cellsOf e = Enc.sz α) (h0 : 0 < Enc.sz α) (he : Rdbl P e α Wf) (hbz : decide (0 < P.bytesOf e) = true) : Rdbl P t (List α) (fun l => (∀ x ∈ l, Wf x) ∧ l.length ≤ 140737488351232) := fun H enc w fuel cs x h hzd => by
  rcases Go.Deep.open_slice ht h with ⟨rfl, _⟩ | ⟨a, len, cap, m, n, D, Pl, rfl, hb, hl, hm, hmm, hxe, hx⟩
  · exact ⟨[], ⟨none, 0, rfl, by simp, by simp, .inl rfl⟩, fun x h => by simp at h, by simp⟩
  · rw [hs] at hx
    rw [hxe] at hzd
    have hzw : DataW.weights P t (.slice ((List.range len).map D) ((List.range (m - len)).map fun j => D (len + j))) = (((List.range len).map D).length + ((List.range (m - len)).map fun j => D (len + j)).length) * P.bytesOf e :: (DataW.weightsAll P e ((List.range len).map D) ++ DataW.weightsAll P e ((List.range (m - len)).map fun j => D (len + j))) := by rw [DataW.weights, ht]
    have hlb : len ≤ 140737488351232 := by
      have h1 := hzd _ (by show _ ∈ DataW.weights P t _; rw [hzw]; exact List.mem_cons_self)
      simp only [List.length_map, List.length_range] at h1
      have h2 : 0 < P.bytesOf e := of_decide_eq_true hbz
      have h3 : len * 1 ≤ (len + (m - len)) * P.bytesOf e := Nat.mul_le_mul (Nat.le_add_right _ _) h2
      unfold reachBytes at h1
      omega
    have hez : ∀ i, i < len → Zd P e (D i) := fun i hi q hq => hzd q (by
      show _ ∈ DataW.weights P t _
      rw [hzw]
      exact List.mem_cons_of_mem _ (List.mem_append_left _ (weights_mem_all hq (List.mem_map.2 ⟨i, List.mem_range.2 hi, rfl⟩))))
    by_cases hz : len = 0
    · subst hz
      exact ⟨[], ⟨some a, cap, rfl, by simp, hm, .inl rfl⟩, fun x h => by simp at h, by simp⟩
    · obtain ⟨b, o, spot⟩ := a
      have hmc : len ≤ m := by rw [hmm]; split <;> omega
      obtain ⟨cs0, hc0, _⟩ := hx 0 (by omega)
      obtain ⟨_, hlen0, hcell0⟩ := World.cells?_some hc0
      have h00 := hcell0 0 (by omega)
      have hsp : spot = none := by
        have hlt : 0 < cs0.length := by omega
        rw [List.getElem?_eq_getElem hlt] at h00
        have := World.cell?_spot h00
        simpa [Addr.add] using this
      subst hsp
      obtain ⟨c, ty, fz, hbk⟩ : ∃ c ty fz, w.heap[b]? = some (.cells c ty fz) := by
        rw [List.getElem?_eq_getElem (by omega)] at h00
        simp only [World.cell?, Addr.add, Nat.zero_mul, if_true] at h00
        split at h00
        · rename_i c ty fz hh; exact ⟨c, ty, fz, hh⟩
        · cases h00
      obtain ⟨xs, ds, hxl, hr, hwf, hd⟩ := RF_of (α := α) (Wf := Wf) hbk len o (fun i hi => by
        obtain ⟨cs', hc', ht'⟩ := hx i (by omega)
        obtain ⟨_, hlen', hcell'⟩ := World.cells?_some hc'
        obtain ⟨a, ha, hw⟩ := he H enc w n cs' _ ht' (hez i hi)
        refine ⟨a, cs', ha, hw, fun j hj => ?_⟩
        rw [← hcell' j hj, Go.Deep.add_add]
        unfold Addr.add
        split
        · rename_i h0; rw [show o + i * Enc.sz α + j = o by omega]
        · rw [show o + i * Enc.sz α + j = o + (i * Enc.sz α + j) by omega])
      refine ⟨xs, ⟨some ⟨b, o, none⟩, cap, by rw [hxl], by omega, hm, .inr ⟨b, o, ds, rfl, hr, ⟨c, ty, fz, hbk, hd⟩⟩⟩, hwf, by rw [hxl]; exact hlb⟩

/-- An argument. -/
theorem Rdbl.arg {α : Type} [Enc α] {Wf : α → Prop} (h : Rdbl P t α Wf) {H : Type} {enc : TypeId × Value → H} {w : World} {v : Value} {d : DataW H} {ps : List MemPlace}
    (hv : DataW.Trod enc P w 0 (fun _ => true) true t v d ps) (hz : Zd P t d) : ∃ a : α, R (hpOf w) a v.cells.toList ∧ Wf a := let ⟨n, hn⟩ := hv; h H enc w n _ _ hn hz
end

/-! ### The end -/

theorem trodAll_ext {H : Type} {enc : TypeId × Value → H} {P : Program} (hl : laidOutB P = true) {W W' : World} (hb : Ext W W') : ∀ {ts : List TypeId} {vs : List Value} {ds : List (DataW H)} {ps : List MemPlace},
    (ts.all fun t => P.readableRec t && decide (t < P.types.size)) = true → (∀ x ∈ ps, x.block < W.heap.size) → DataW.TrodAll enc P W 0 (fun _ => true) true ts vs ds ps →
    DataW.TrodAll enc P W' 0 (fun b => decide (b < W.heap.size)) true ts vs ds ps
  | [], vs, ds, ps, _, _, h => by obtain ⟨rfl, rfl, rfl⟩ := trodAll_nil h; exact rfl
  | t :: ts, vs, ds, ps, ht, hp, h => by
    obtain ⟨v, vs1, d, ds1, a, b, rfl, rfl, rfl, h1, h2⟩ := trodAll_cons h
    simp only [List.all_cons, Bool.and_eq_true, decide_eq_true_eq] at ht
    exact ⟨a, b, Below.trod hl ht.1.1 ht.1.2 h1 hb (fun x hx => hp x (List.mem_append_left _ hx)),
      trodAll_ext hl hb (by simpa using ht.2) (fun x hx => hp x (List.mem_append_right _ hx)) h2, rfl⟩

/-- The conclusion of a law's row, where nothing that was has turned. -/
theorem post_ext {H : Type} {enc : TypeId × Value → H} {P : Program} (hl : laidOutB P = true) {f : Func} {s : ChangeSpec} {W W' : World} {args : Array Value} {v : Value} {ds gs : List (DataW H)} {before : List MemPlace}
    (hp : (f.params.toList.all fun t => P.readableRec t && decide (t < P.types.size)) = true)
    (hW : DataW.Whole enc P f.params.toList s.vars false W args.toList ds gs before)
    (hres : DataW.TrodAll enc P W' W.heap.size (fun _ => false) false f.resultTypes.toList (v.resultList f.resultTypes.size) (s.fn H (ds ++ gs)).results [])
    (hargs : (s.fn H (ds ++ gs)).args = ds) (hv0 : s.vars = []) (hv1 : (s.fn H (ds ++ gs)).vars = []) (hb : Ext W W') :
    s.post enc P f false true false false W args v W' := by
  have hlt := hW.lt
  obtain ⟨p, q, hA, hV, rfl, hfz, hnd⟩ := hW
  rw [hv0] at hV
  have hV' := hV
  obtain ⟨rfl, rfl⟩ := trodVars_none hV
  refine ⟨ds, [], p ++ [], [], p, [], ⟨p, [], hA, by rw [hv0]; exact hV', rfl, hfz, hnd⟩, hres, ?_, ?_, hb.frame _, fun h => by cases h⟩
  · rw [hargs]
    exact trodAll_ext hl hb hp (fun x hx => hlt x (by simpa using hx)) hA
  · rw [hv1, hv0]; rfl

end Go.Vg
