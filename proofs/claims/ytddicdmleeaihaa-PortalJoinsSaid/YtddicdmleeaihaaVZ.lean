/-
  slices.SortFunc over a row: what its array holds behind it, by the shelf's contract, as a chunk. For every program whose tables say what the lemma asks. A library of this claim's own.
-/
import Derived.Test.YtddicdmleeaihaaVY
import Derived.Shelf.SlSortCmp.NoneTotal
set_option linter.unusedSimpArgs false
set_option linter.unusedVariables false
namespace Go.Vg
open Go.RowKit (Below)
open Go.Shelf Go.Lib Go.Sort Go.Proofs
open Enc (R)

section
variable {α : Type} [Inhabited α]
/-- What slices.SortFunc leaves. -/
def sortF (lt : α → α → Bool) (xs : List α) : List α := (pdq lt xs.toArray 0 xs.length (Lib.bitLen xs.length) true true).toList
theorem sortF_spec {lt : α → α → Bool} (hO : SWO lt) (xs : List α) : (sortF lt xs).Perm xs ∧ (sortF lt xs).length = xs.length ∧ ∀ i j, i < j → j < xs.length → lt (sortF lt xs)[j]! (sortF lt xs)[i]! = false := by
  have h := pdq_sorts lt hO xs.toArray 0 xs.length (Lib.bitLen xs.length) true true (Nat.zero_le _) (by simp) (Or.inl rfl)
  obtain ⟨⟨h1, h2, h3⟩, h4⟩ := h
  have hsz : (pdq lt xs.toArray 0 xs.length (Lib.bitLen xs.length) true true).size = xs.length := by rw [h1]; simp
  refine ⟨?_, by unfold sortF; rw [Array.length_toList, hsz], fun i j hij hj => ?_⟩
  · have e0 : ∀ (a : Array α) (n : Nat), a.size = n → a.extract 0 n = a := fun a n h => by subst h; simp
    have e1 := e0 _ _ hsz
    have e2 := e0 xs.toArray xs.length (by simp)
    rw [e1, e2] at h3
    exact h3
  · have := h4 i j (Nat.zero_le _) hij hj
    unfold sortF
    rw [Array.getElem!_toList, Array.getElem!_toList]; exact this
theorem flatMap_get (enc : α → List Value) (k : Nat) (hk : ∀ x, (enc x).length = k) (k0 : 0 < k) : ∀ (xs : List α) (t : Nat), t < xs.length * k → (xs.flatMap enc)[t]? = some (enc xs[t / k]!)[t % k]!
  | [], t, h => by simp at h
  | x :: xs, t, h => by
    rw [List.flatMap_cons]
    by_cases ht : t < k
    · rw [List.getElem?_append_left (by rw [hk]; exact ht), Nat.div_eq_of_lt ht, Nat.mod_eq_of_lt ht]
      have : t < (enc x).length := by rw [hk]; exact ht
      simp [this]
    · rw [List.getElem?_append_right (by rw [hk]; omega), hk]
      have h5 : (xs.length + 1) * k = xs.length * k + k := by rw [Nat.add_mul, Nat.one_mul]
      have h6 : t < (xs.length + 1) * k := h
      rw [flatMap_get enc k hk k0 xs (t - k) (by omega)]
      have h1 : t / k = (t - k) / k + 1 := by rw [Nat.div_eq_sub_div k0 (by omega)]
      have h2 : t % k = (t - k) % k := by rw [Nat.mod_eq_sub_mod (by omega)]
      rw [h1, h2]; simp
theorem flatMap_len {β : Type} (enc : β → List Value) (k : Nat) (hk : ∀ x, (enc x).length = k) : ∀ xs : List β, (xs.flatMap enc).length = xs.length * k
  | [] => by simp
  | x :: xs => by rw [List.flatMap_cons, List.length_append, hk, flatMap_len enc k hk xs, List.length_cons, Nat.add_mul]; omega
variable {P : Program} {ρ : Ren}
theorem sort_core (L : SlLaysF0.n6 P ρ) (k : Nat) (k0 : 0 < k) (aE : ∀ w, (isAgg (ρ.t 24)).run P w = .ok true w) (zE : ∀ w, (Go.sizeOf (ρ.t 24)).run P w = .ok k w) (enc : α → List Value) (hk : ∀ x, (enc x).length = k) (h1 : ∀ x, ∀ v ∈ enc x, v.oneCell' = true)
    (cf : α → α → Int) (hO : SWO (ltOf cf)) (gf : Nat) (eg : ∀ args w, (callFunc gf args).run P w = .ok (.enter gf args) w)
    (hcmp : ∀ (x y : α) (W : World), Calls P gf #[.agg (enc x).toArray, .agg (enc y).toArray] W fun e w' => e = .returned (.int .i64 (cf x y)) ∧ ∃ q os', w' = grow (W.drewN q) os')
    {w0 w : World} {G : List Ch} (g cap : Nat) (zs : List α) (sp : List Value) (e : TypeId) (Pr : Hp → Prop) (hz : zs.length < 4611686018427387904)
    (s : Sat w0 ((fun h => h g = some (.cells (zs.flatMap enc ++ sp).toArray e (0, 0)) ∧ Pr (h.off g)) :: G) w) :
    Calls P (ρ.f 6) #[.slice (some ⟨g, 0, none⟩) zs.length cap, .func (.func gf) #[] #[]] w fun e' w' => e' = .returned (.tuple #[]) ∧ Sat w0 ((fun h => h g = some (.cells ((sortF (ltOf cf) zs).flatMap enc ++ sp).toArray e (0, 0)) ∧ Pr (h.off g)) :: G) w' := by
  obtain ⟨p, ⟨hpg, hpr⟩, hle, hbase⟩ := s.get 0 rfl
  have hg : w.heap[g]? = some (.cells (zs.flatMap enc ++ sp).toArray e (0, 0)) := hle _ _ hpg
  have hgl : g < w.heap.size := lt_of_hp hg
  have hfl := flatMap_len enc k hk zs
  have hH : HoldsK enc k w g 0 zs.toArray := by
    intro j hj
    rw [size_flatK, List.size_toArray] at hj
    refine ⟨?_, ?_⟩
    · rw [get_flatK enc k zs.toArray j (by simpa using hj)]
      simp only [World.cell?, hg, Nat.zero_add]
      rw [if_neg (by simp), List.getElem?_toArray, List.getElem?_append_left (by omega), flatMap_get enc k hk k0 zs j hj]
      simp
    · simp [World.frozen?, hg]
  have hcL : CmpLays P gf #[] enc k cf g 0 zs.toArray.size w := fun m os dk _ x y => by
    have := hcmp x y (sortWorldK enc k w g 0 m dk os)
    simpa using this
  have hc := AnyQ.slices_SortFunc_eq L k aE zE enc hk h1 cf hO gf #[] g 0 cap zs.toArray w eg hcL hH hgl (by simpa using hz)
  rw [List.size_toArray] at hc
  refine hc.mono ?_
  rintro e' w' ⟨rfl, n, os, rfl⟩
  refine ⟨rfl, ?_⟩
  obtain ⟨hperm, hlen, _⟩ := sortF_spec hO zs
  have hsE : (pdq (ltOf cf) zs.toArray 0 zs.length (Lib.bitLen zs.length) true true) = (sortF (ltOf cf) zs).toArray := by unfold sortF; simp
  rw [hsE]
  obtain ⟨ys, hys⟩ : ∃ ys, sortF (ltOf cf) zs = ys := ⟨_, rfl⟩
  rw [hys] at hlen ⊢
  have hfy := flatMap_len enc k hk ys
  have hyz : ys.length * k = zs.length * k := by rw [hlen]
  refine Sat.turn s 0 rfl _ rfl rfl rfl ?_ ?_
  · simp only [sortWorldK, grow, putRowK, Array.size_append, Go.Sort.size_putRow]
    show w.heap.size ≤ w.heap.size + os.size
    omega
  · intro p ⟨hpg, hpr⟩ hle hbase
    have hheap : ∀ b, b < w.heap.size → (sortWorldK enc k w g 0 n ys.toArray os).heap[b]? = (putRowK enc k (Sort.ahead w n) g 0 ys.toArray).heap[b]? := fun b hb => by
      simp only [sortWorldK, grow]
      rw [Array.getElem?_append_left]
      rw [putRowK, Go.Sort.size_putRow]; exact hb
    refine ⟨fun b hb hpb => ?_, fun b => if b = g then some (.cells (ys.flatMap enc ++ sp).toArray e (0, 0)) else p b, ⟨by simp, ?_⟩, fun b o hb => ?_⟩
    · rw [hheap b hb]
      have hbg : g ≠ b := fun h => by subst h; rw [hpg] at hpb; cases hpb
      simp only [putRowK, putRow, mapBlock, Array.getElem?_modify, if_neg hbg]
      rfl
    · have : (Hp.off (fun b => if b = g then some (Obj.cells (ys.flatMap enc ++ sp).toArray e (0, 0)) else p b) g) = p.off g := by
        funext b
        unfold Hp.off
        by_cases hb : b = g <;> simp [hb]
      rw [this]; exact hpr
    · dsimp only at hb
      split at hb
      · rename_i hbg
        subst hbg
        refine ⟨.inl (by rw [hpg]; simp), ?_⟩
        rw [hheap b hgl, ← hb]
        simp only [putRowK, putRow, mapBlock, Array.getElem?_modify, if_pos]
        show (w.heap[b]?).map _ = _
        rw [hg]
        simp only [Option.map_some, onCells, Option.some.injEq, Obj.cells.injEq, and_true]
        apply Array.ext_getElem?
        intro t
        simp only [putCells, Array.getElem?_mapIdx, size_flatK, List.size_toArray, Nat.zero_le, true_and, Nat.zero_add, Nat.sub_zero]
        rw [List.getElem?_toArray, List.getElem?_toArray]
        by_cases ht : t < ys.length * k
        · rw [List.getElem?_append_left (l₁ := ys.flatMap enc) (by omega), flatMap_get enc k hk k0 ys t ht]
          rw [List.getElem?_append_left (by rw [hfl, ← hlen]; exact ht), flatMap_get enc k hk k0 zs t (by rw [← hlen]; exact ht)]
          simp only [Option.map_some, if_pos ht]
          rw [get_flatK enc k ys.toArray t (by simpa using ht)]
          simp
        · rw [List.getElem?_append_right (by omega), List.getElem?_append_right (l₁ := ys.flatMap enc) (by omega), hfl, hfy, hyz]
          cases sp[t - zs.length * k]? with
          | none => rfl
          | some v => rw [hyz] at ht; simp [if_neg ht]
      · exact ⟨.inl (by rw [hb]; simp), by
          have h1 := hle b o hb
          have hb' : b < w.heap.size := lt_of_hp h1
          rw [hheap b hb']
          rename_i hbg
          simp only [putRowK, putRow, mapBlock, Array.getElem?_modify, if_neg (Ne.symm hbg)]
          exact h1⟩
/-- At a row of flat elements. -/
theorem sort_row (L : SlLaysF0.n6 P ρ) (k : Nat) (k0 : 0 < k) (aE : ∀ w, (isAgg (ρ.t 24)).run P w = .ok true w) (zE : ∀ w, (Go.sizeOf (ρ.t 24)).run P w = .ok k w) [Enc α] [Flat α] (enc : α → List Value) (hR : ∀ h x c, R h x c ↔ c = enc x) (hk : ∀ x, (enc x).length = k)
    (cf : α → α → Int) (hO : SWO (ltOf cf)) (gf : Nat) (eg : ∀ args w, (callFunc gf args).run P w = .ok (.enter gf args) w)
    (hcmp : ∀ (x y : α) (W : World), Calls P gf #[.agg (enc x).toArray, .agg (enc y).toArray] W fun e w' => e = .returned (.int .i64 (cf x y)) ∧ ∃ q os', w' = grow (W.drewN q) os')
    {w0 w : World} {G : List Ch} (q : Option Nat × Nat) (m : Nat) (zs : List α) (e : TypeId) (hm : m = zs.length) (hz : zs.length < 4611686018427387904)
    (s : Sat w0 (row nilH e (rowV q m) zs :: G) w) :
    Calls P (ρ.f 6) #[rowV q m, .func (.func gf) #[] #[]] w fun e' w' => e' = .returned (.tuple #[]) ∧ Sat w0 (row nilH e (rowV q m) (sortF (ltOf cf) zs) :: G) w' := by
  subst hm
  obtain ⟨hperm, hlen, _⟩ := sortF_spec hO zs
  have hRF : ∀ (h : Hp) (xs : List α) (cs : List Value), RF h xs cs ↔ cs = xs.flatMap enc := fun h xs => by
    induction xs with
    | nil => intro cs; exact Iff.rfl
    | cons x xs ih =>
      intro cs
      constructor
      · rintro ⟨c, r, rfl, h1, h2⟩
        rw [(hR h x c).1 h1, (ih r).1 h2, List.flatMap_cons]
      · rintro rfl
        exact ⟨enc x, xs.flatMap enc, by rw [List.flatMap_cons], (hR h x _).2 rfl, (ih _).2 rfl⟩
  have hone : ∀ x, ∀ v ∈ enc x, v.oneCell' = true := fun x => Enc.one ((hR nilH x _).2 rfl)
  have hsz : Enc.sz α = k := by
    cases zs with
    | nil => have := Enc.len ((hR nilH (default : α) _).2 rfl); rw [hk] at this; exact this.symm
    | cons x _ => have := Enc.len ((hR nilH x _).2 rfl); rw [hk] at this; exact this.symm
  obtain ⟨p, hp, hle, hbase⟩ := s.get 0 rfl
  obtain ⟨p0, hp0, s0⟩ := s.freeze 0 rfl
  rcases hp0 with ⟨hv, hz0⟩ | ⟨g, cap, cs, sp, hv, hg, h3, h4, h5, h6⟩
  · subst hz0
    have hsn : sortF (ltOf cf) ([] : List α) = [] := List.eq_nil_of_length_eq_zero hlen
    rw [hv]
    refine (AnyF.slices_SortFunc_none L none 0 _ w).mono ?_
    rintro e' w' ⟨rfl, rfl⟩
    refine ⟨rfl, ?_⟩
    rw [hsn]
    rw [hv] at s
    exact s
  · have hcs : cs = zs.flatMap enc := (hRF _ _ _).1 h6
    subst hcs
    have s1 := s0.weaken 0 rfl (fun h => h g = some (.cells (zs.flatMap enc ++ sp).toArray e (0, 0)) ∧ True) (fun r hr => by rw [show r = p0 from hr]; exact ⟨hg, trivial⟩)
    rw [hv]
    refine (sort_core L k k0 aE zE enc hk hone cf hO gf eg hcmp g cap zs sp e (fun _ => True) hz s1).mono ?_
    rintro e' w' ⟨rfl, s2⟩
    refine ⟨rfl, ?_⟩
    have s3 := s2.weaken 0 rfl (row nilH e (.slice (some ⟨g, 0, none⟩) zs.length cap) (sortF (ltOf cf) zs)) (fun r hr => .inr ⟨g, cap, _, sp, by rw [hlen], hr.1, by rw [hlen]; exact h3, h4, ?_, (hRF _ _ _).2 rfl⟩)
    · exact s3
    · rw [List.length_append, flatMap_len enc k hk, hlen, ← flatMap_len enc k hk zs, ← List.length_append, h5]
end
end Go.Vg
