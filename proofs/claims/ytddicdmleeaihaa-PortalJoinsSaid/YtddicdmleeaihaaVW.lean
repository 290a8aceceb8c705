/-
  A queue in a slice: numbers that are put at its end and taken from its front. For every program, with no condition. A library of this claim's own.
-/
import Derived.Test.YtddicdmleeaihaaVU
set_option linter.unusedSimpArgs false
set_option linter.unusedVariables false
namespace Go.Vg
open Enc (R)
open Go.RowKit (Below)
def tqV (q : Option Addr × Nat) (n : Nat) : Value := .slice q.1 n q.2
/-- A slice of numbers that may begin anywhere in its array. -/
def tq (e : TypeId) (q : Option Addr × Nat) (xs : List Int) : Ch := fun h =>
  xs.length ≤ q.2 ∧ q.2 ≤ maxLen ∧ (q.2 = 0 ∨ ∃ g o c, q.1 = some ⟨g, o, none⟩ ∧ h g = some (.cells c e (0, 0)) ∧ o + q.2 ≤ c.size ∧ ∀ j x, xs[j]? = some x → c[o + j]? = some (.int .i64 x))
section
variable {w0 w : World} {G : List Ch}
theorem RF_nums {h : Hp} : ∀ (xs : List Int), RF h xs (nums xs)
  | [] => rfl
  | x :: xs => ⟨[.int .i64 x], nums xs, rfl, rfl, RF_nums xs⟩
theorem RF_nums_eq {h : Hp} : ∀ {xs : List Int} {cs : List Value}, RF h xs cs → cs = nums xs
  | [], _, e => e
  | x :: xs, _, ⟨c, r, e, hx, hr⟩ => by
    subst e
    have hx : c = [.int .i64 x] := hx
    rw [RF_nums_eq hr, hx]; rfl
theorem nums_len (xs : List Int) : (nums xs).length = xs.length := by simp [nums]
theorem nums_at {xs : List Int} {j : Nat} {v : Value} (h : (nums xs)[j]? = some v) : ∃ x, xs[j]? = some x ∧ v = .int .i64 x := by
  unfold nums at h
  rw [List.getElem?_map, Option.map_eq_some_iff] at h
  obtain ⟨x, hx, rfl⟩ := h
  exact ⟨x, hx, rfl⟩
theorem Sat.getTq {k : Nat} {e : TypeId} {q : Option Addr × Nat} {xs : List Int} (s : Sat w0 G w) (hk : G[k]? = some (tq e q xs)) : R (hpOf w) xs [tqV q xs.length] := by
  obtain ⟨p, ⟨h1, h2, h3⟩, hl, hb⟩ := s.get k hk
  refine ⟨q.1, q.2, rfl, h1, h2, ?_⟩
  rcases h3 with h3 | ⟨g, o, c, e1, hg, hc, ha⟩
  · exact .inl (List.eq_nil_of_length_eq_zero (by omega))
  · refine .inr ⟨g, o, nums xs, e1, RF_nums xs, c, e, (0, 0), hl _ _ hg, fun j v hj => ?_⟩
    obtain ⟨x, hx, rfl⟩ := nums_at hj
    exact ha j x hx
theorem Rd.ofTq (k : Nat) {e : TypeId} {q : Option Addr × Nat} {xs : List Int} (hk : G[k]? = some (tq e q xs)) : Rd (Sat w0 G) xs [tqV q xs.length] := fun w s => s.getTq hk
theorem Sat.tq_some {k : Nat} {e : TypeId} {q : Option Addr × Nat} {xs : List Int} (s : Sat w0 G w) (hk : G[k]? = some (tq e q xs)) (hp : 0 < xs.length) : ∃ b o c, q = (some ⟨b, o, none⟩, c) := by
  obtain ⟨p, ⟨h1, h2, h3⟩, hl, hb⟩ := s.get k hk
  rcases h3 with h3 | ⟨g, o, c, e1, _⟩
  · omega
  · exact ⟨g, o, q.2, by rw [← e1]⟩
theorem Rd.ofTqP (k : Nat) {e : TypeId} {p : Option Addr} {c : Nat} {xs : List Int} (hk : G[k]? = some (tq e (p, c) xs)) : Rd (Sat w0 G) xs [.slice p xs.length c] := Rd.ofTq k hk
def tqOf (q : Option Nat × Nat) : Option Addr × Nat := (q.1.map fun g => ⟨g, 0, none⟩, q.2)
theorem tqOf_v (q : Option Nat × Nat) (n : Nat) : rowV q n = tqV (tqOf q) n := rfl
/-- A row is one. -/
theorem Sat.rowTq (k : Nat) {B : Hp} {e : TypeId} {q : Option Nat × Nat} {m : Nat} {xs : List Int} (s : Sat w0 G w) (hk : G[k]? = some (row B e (rowV q m) xs)) : Sat w0 (G.set k (tq e (tqOf q) xs)) w := by
  refine s.weaken k hk _ fun p hp => ?_
  obtain ⟨q1, q2⟩ := q
  rcases hp with ⟨hv, rfl⟩ | ⟨g, cap, cs, sp, hv, h1, h2, h3, h4, h5⟩
  · simp only [rowV, Value.slice.injEq] at hv
    obtain ⟨_, _, hq2⟩ := hv
    have hq2 : q2 = 0 := hq2
    subst hq2
    exact ⟨by simp, by show 0 ≤ maxLen; omega, .inl rfl⟩
  · simp only [rowV, Value.slice.injEq] at hv
    obtain ⟨hv1, hv2, hv3⟩ := hv
    have hv3 : q2 = cap := hv3
    subst hv3
    have hcs := RF_nums_eq h5
    refine ⟨h2, h3, .inr ⟨g, 0, _, hv1, h1, ?_, fun j x hx => ?_⟩⟩
    · have : Enc.sz Int = 1 := rfl
      rw [this] at h4
      simp only [List.size_toArray, h4]
      show 0 + q2 ≤ _
      omega
    · rw [Nat.zero_add, List.getElem?_toArray, hcs]
      have hj := (List.getElem?_eq_some_iff.1 hx).1
      rw [List.getElem?_append_left (by rw [nums_len]; exact hj)]
      unfold nums; rw [List.getElem?_map, hx]; rfl
/-- What is left when the first ones are taken. -/
theorem Sat.tqDrop (k l : Nat) {e : TypeId} {q : Option Addr × Nat} {xs : List Int} (s : Sat w0 G w) (hk : G[k]? = some (tq e q xs)) (hl : l ≤ xs.length) : Sat w0 (G.set k (tq e (cutP q.1 q.2 l 1, q.2 - l) (xs.drop l))) w := by
  refine s.weaken k hk _ fun p hp => ?_
  obtain ⟨h1, h2, h3⟩ := hp
  refine ⟨by rw [List.length_drop]; show _ ≤ q.2 - l; omega, by show q.2 - l ≤ maxLen; omega, ?_⟩
  by_cases hq : q.2 = l
  · exact .inl (by show q.2 - l = 0; omega)
  · rcases h3 with h3 | ⟨g, o, c, e1, hg, hc, ha⟩
    · omega
    · refine .inr ⟨g, o + l, c, ?_, hg, by show o + l + (q.2 - l) ≤ _; omega, fun j x hx => ?_⟩
      · show cutP q.1 q.2 l 1 = _
        unfold cutP
        rw [if_neg hq, e1]
        show some ((⟨g, o, none⟩ : Addr).add (l * 1)) = _
        rw [add_lit, Nat.mul_one]
      · rw [List.getElem?_drop] at hx
        have := ha (l + j) x hx
        rw [show o + l + j = o + (l + j) by omega]; exact this
end
section
variable {P : Program} {n : Nat} {fr : Fr} {dst : Option Tmp} {ty : TypeId} {pos : String} {aft : Array Edge} {g : Option (Nat × Bool)} {S : As} {w0 : World} {G : List Ch} {Q : Po}
theorem Pu.dropTq {t e : TypeId} {x lo : Operand} {by' : Nat} {q : Option Addr × Nat} {k : IntKind} {j : Int} {xs : List Int} (ht : slTy P t = some (e, 1, by')) (hx : ev fr x = some (tqV q xs.length)) (hl : ev fr lo = some (.int k j)) (h : 0 ≤ j ∧ j ≤ (xs.length : Int)) :
    Pu P n ⟨dst, .slice t x (some lo) none none, ty, pos, aft, g⟩ fr (tqV (cutP q.1 q.2 j.toNat 1, q.2 - j.toNat) (xs.drop j.toNat).length) := by
  rw [List.length_drop]
  exact Pu.sliceL ht hx hl h
/-- append(s, x), s a queue. -/
theorem Sd.tqApp (k k1 : Nat) {x y : Operand} {t e e' : TypeId} {by' : Nat} {z : Value} {q : Option Addr × Nat} {xs : List Int} (y0 : Int) {b c : Nat} (hk : G[k]? = some (tq e q xs)) (hk1 : G[k1]? = some (blk b [.int .i64 y0] e'))
    (ht : slTy P t = some (e, 1, by')) (hz : zeroOf P e = some z) (hzs : z.cells.size = 1) (hx : ev fr x = some (tqV q xs.length)) (hy : ev fr y = some (.slice (some ⟨b, 0, none⟩) 1 c))
    (hlt : xs.length < 1099511627776) (hby : by' ≤ 128) :
    Sd P n ⟨dst, .call { callee := .builtin .append, args := #[x, y], argTypes := #[t, t] }, ty, pos, aft, g⟩ fr (Sat w0 G) (fun q' => tqV q' (xs ++ [y0]).length) (fun q' => Sat w0 (G.set k (tq e q' (xs ++ [y0])))) := fun a w kn s => by
  obtain ⟨hu, i, hi, hsz, hby'⟩ := slTy_spec ht
  obtain ⟨i', hi', hz'⟩ := Option.bind_eq_some_iff.1 hz
  rw [hi] at hi'; cases hi'
  subst hby'
  obtain ⟨p0, ⟨h1, h2, h3⟩, hl0, hb0⟩ := s.get k hk
  have hnews : ∀ j u, ([.int .i64 y0] : List Value)[j]? = some u → w.cell? ((⟨b, 0, none⟩ : Addr).add j) = some u := fun j u hj => by
    rw [add_lit]; simp [World.cell?, (s.getBlk hk1).1, hj]
  have h63 : (((xs.length + 1 : Nat)) : Int) ≤ 9223372036854775807 := by omega
  have hlen1 : (xs ++ [y0]).length = xs.length + 1 := by simp
  rw [hlen1]
  -- a new array
  have fresh : ∀ cap, xs.length + 1 ≤ cap → cap ≤ maxLen → Sat w0 (G.set k (tq e (some ⟨w.heap.size, 0, none⟩, cap) (xs ++ [y0]))) (w.drew.alloc (.cells ((nums xs).toArray ++ ([.int .i64 y0] : List Value).toArray ++ Builtin.zeroCells z.cells (cap - (xs.length + 1))) e)) := by
    intro cap hc1 hc2
    refine s.turn k hk _ rfl rfl rfl (by simp) fun p hp hl hb => ?_
    refine ⟨fun b hb' hn => (Below.heap_alloc w.drew _ b (by simpa using hb')), fun b => if b = w.heap.size then some (.cells ((nums xs).toArray ++ ([.int .i64 y0] : List Value).toArray ++ Builtin.zeroCells z.cells (cap - (xs.length + 1))) e (0, 0)) else none, ⟨by rw [hlen1]; exact hc1, hc2, .inr ⟨w.heap.size, 0, _, rfl, if_pos rfl, ?_, fun j x hx => ?_⟩⟩, fun b o hbo => ?_⟩
    · simp only [Array.size_append, List.size_toArray, nums_len, List.length_cons, List.length_nil, size_zeroCells, hzs]
      show 0 + cap ≤ _
      omega
    · have hj : j < xs.length + 1 := by have := (List.getElem?_eq_some_iff.1 hx).1; simpa using this
      rw [Nat.zero_add, Array.getElem?_append_left (by simp [nums_len]; omega)]
      have e1 : (nums xs).toArray ++ ([.int .i64 y0] : List Value).toArray = (nums (xs ++ [y0])).toArray := by simp [nums]
      rw [e1, List.getElem?_toArray]
      unfold nums; rw [List.getElem?_map, hx]; rfl
    · dsimp only at hbo
      split at hbo
      · rename_i hbw
        subst hbw; cases hbo
        exact ⟨.inr (Nat.le_refl _), heap_alloc_new w.drew _⟩
      · cases hbo
  have fin : ∀ v' w' (q' : Option Addr × Nat), (Builtin.append_ #[t, t] ty #[tqV q xs.length, .slice (some ⟨b, 0, none⟩) 1 c]).run P w = .ok v' w' → v' = tqV q' (xs.length + 1) → Sat w0 (G.set k (tq e q' (xs ++ [y0]))) w' →
      solidRes P (fun q' => tqV q' (xs.length + 1)) (fun q' => Sat w0 (G.set k (tq e q' (xs ++ [y0])))) ((execOp a.eval ⟨dst, .call { callee := .builtin .append, args := #[x, y], argTypes := #[t, t] }, ty, pos, aft, g⟩).run P w) := by
    intro v' w' q' hr hv hs
    rw [run_builtin_append kn hx hy hr]
    exact ⟨q', hv, hs⟩
  by_cases hroom : xs.length + 1 ≤ q.2
  · rcases h3 with h3 | ⟨gg, o, cells, e1, hg, hc, ha⟩
    · omega
    · have hwg := hl0 _ _ hg
      have hst := run_storeCells_at (P := P) gg (o + xs.length) e [.int .i64 y0] 0 cells w hwg (by simp; omega) (by simp [Value.oneCell'])
      simp only [Nat.add_zero] at hst
      have hfc := run_firstCells_some (P := P) w i.size 1 ⟨b, 0, none⟩ 1 c [.int .i64 y0] (by rw [hsz]; rfl) hnews
      have hrun : (Builtin.append_ #[t, t] ty #[tqV q xs.length, .slice (some ⟨b, 0, none⟩) 1 c]).run P w = .ok (tqV q (xs.length + 1)) (w.setRow gg (cells.toList.take (o + xs.length) ++ [Value.int .i64 y0] ++ cells.toList.drop (o + xs.length + 1)).toArray) := by
        rw [hsz] at hfc
        simp [tqV, Builtin.append_, run_underlying hu, sizeOf, typeInfo, hi, Builtin.lenOf, hroom, hfc, hsz, add_lit, e1, hst, Result.andThen]
      refine fin _ _ q hrun rfl ?_
      refine s.turn k hk _ rfl rfl rfl (by simp) fun p hp hl hb => ?_
      obtain ⟨_, _, h3'⟩ := hp
      rcases h3' with h3' | ⟨gg', o', cells', e1', hg', hc', ha'⟩
      · omega
      rw [e1] at e1'
      obtain ⟨rfl, rfl⟩ : gg = gg' ∧ o = o' := by simpa using e1'
      obtain rfl : cells = cells' := by
        have h1 := hl _ _ hg'
        have h2 : w.heap[gg]? = some (.cells cells e (0, 0)) := hwg
        have h3 : w.heap[gg]? = some (.cells cells' e (0, 0)) := h1
        rw [h2] at h3
        simpa using h3
      refine ⟨fun b hb' hn => setRow_other w gg b _ (fun e' => by rw [e', hg'] at hn; cases hn), fun b => if b = gg then some (.cells (cells.toList.take (o + xs.length) ++ [Value.int .i64 y0] ++ cells.toList.drop (o + xs.length + 1)).toArray e (0, 0)) else none, ⟨by rw [hlen1]; exact hroom, h2, .inr ⟨gg, o, _, e1, if_pos rfl, ?_, fun j x hx => ?_⟩⟩, fun b o' hbo => ?_⟩
      · simp only [List.size_toArray, List.length_append, List.length_take, List.length_drop, List.length_cons, List.length_nil, Array.length_toList]
        omega
      · have hj : j < xs.length + 1 := by have := (List.getElem?_eq_some_iff.1 hx).1; simpa using this
        have htl : (cells.toList.take (o + xs.length)).length = o + xs.length := by rw [List.length_take]; exact Nat.min_eq_left (by have : cells.toList.length = cells.size := Array.length_toList; omega)
        rw [List.getElem?_toArray]
        by_cases hjl : j < xs.length
        · rw [List.append_assoc, List.getElem?_append_left (by omega), List.getElem?_take_of_lt (by omega), Array.getElem?_toList]
          rw [List.getElem?_append_left hjl] at hx
          exact ha j x hx
        · have hje : j = xs.length := by omega
          subst hje
          rw [List.append_assoc, List.getElem?_append_right (by omega), htl, Nat.sub_self]
          simp at hx
          subst hx; rfl
      · dsimp only at hbo
        split at hbo
        · rename_i hbg; subst hbg; cases hbo
          exact ⟨.inl (by rw [hg']; simp), setRow_heap w b _ _ e (0, 0) hwg⟩
        · cases hbo
  · have hge := fun cap => grownCap_ge w (xs.length + 1) cap e
    have hle := fun cap => grownCap_le_maxLen w (xs.length + 1) cap e (by unfold maxLen; omega)
    have hbytes : (xs.length + 1) * i.bytes ≤ 140737488355328 := by
      have := Nat.mul_le_mul (show xs.length + 1 ≤ 1099511627776 by omega) hby; omega
    have holds : ∀ (A : Addr), q.1 = some A → ∀ j u, (nums xs)[j]? = some u → w.cell? (A.add j) = some u := fun A hA j u hj => by
      obtain ⟨x, hx, rfl⟩ := nums_at hj
      rcases h3 with h3 | ⟨gg, o, cells, e1, hg, hc, ha⟩
      · have := (List.getElem?_eq_some_iff.1 hx).1; omega
      · rw [hA] at e1; cases e1
        have hw : w.heap[gg]? = some (.cells cells e (0, 0)) := hl0 _ _ hg
        rw [add_lit]
        simp [World.cell?, hw, ha j x hx]
    cases hq : q.1 with
    | none =>
      have hx0 : xs = [] := by
        rcases h3 with h3 | ⟨gg, o, cells, e1, _⟩
        · exact List.eq_nil_of_length_eq_zero (by omega)
        · rw [hq] at e1; cases e1
      have hq2 : q.2 = 0 := by
        rcases h3 with h3 | ⟨gg, o, cells, e1, _⟩
        · exact h3
        · rw [hq] at e1; cases e1
      subst hx0
      have hr := run_append_nil (P := P) w t ty e i z hu hi hz' ⟨b, 0, none⟩ 1 c [.int .i64 y0] (by rw [hsz]; rfl) hnews (by omega) (by omega) (by simp only [List.length_nil, Nat.zero_add] at hbytes; omega)
      have hf := fresh (grownCap w 1 0 e) (by have := hge 0; simpa using this) (by have := hle 0; simpa using this)
      refine fin _ _ (some ⟨w.heap.size, 0, none⟩, grownCap w 1 0 e) (by unfold tqV; rw [hq, hq2]; exact hr) rfl ?_
      simpa [nums] using hf
    | some A =>
      have hr := run_append_grow (P := P) w t ty e i z hu hi hz' A xs.length q.2 (nums xs) (by rw [nums_len, hsz, Nat.mul_one]) (holds A hq) ⟨b, 0, none⟩ 1 c [.int .i64 y0] (by rw [hsz]; rfl) hnews (by omega) h63 (growslice_fits (by omega) hbytes)
      exact fin _ _ (some ⟨w.heap.size, 0, none⟩, grownCap w (xs.length + 1) q.2 e) (by unfold tqV; rw [hq]; exact hr) rfl (fresh _ (hge _) (hle _))
end
end Go.Vg
