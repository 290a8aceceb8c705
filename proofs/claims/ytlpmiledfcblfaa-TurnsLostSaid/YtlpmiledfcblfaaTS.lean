/-
  slices.Clone and slices.SortFunc of inputs, and their order. The conditions stand in each lemma.
-/
import Derived.Test.YtlpmiledfcblfaaTO
import Derived.Test.YtlpmiledfcblfaaZC
import Derived.Test.YtlpmiledfcblfaaVZ

import Derived.Lib.Walk
import Derived.StillTailTactics
set_option linter.unusedVariables false
set_option linter.unusedSimpArgs false
set_option maxRecDepth 100000
namespace Go.Proofs.Ytlpmiledfcblfaa
open Go.Shelf Go.RowKit Go.Lib Go.Sort
open Go.Vg
open Enc (R)
def sortLay_ren : Go.Shelf.Ren := ⟨fun | 6 => 55 | 15 => 90 | 14 => 89 | 28 => 118 | 29 => 119 | 20 => 110 | 21 => 111 | 22 => 112 | 23 => 113 | 24 => 114 | 25 => 115 | 26 => 116 | 27 => 117 | 46 => 127 | 47 => 128 | 48 => 129 | 49 => 130 | 50 => 131 | 57 => 136 | n => n, fun | 22 => 24 | 24 => 50 | 25 => 105 | 3 => 3 | 39 => 62 | 0 => 0 | 53 => 139 | 55 => 67 | 4 => 4 | 46 => 146 | 45 => 145 | 50 => 135 | 5 => 5 | 9 => 9 | 66 => 157 | 70 => 161 | 76 => 164 | 77 => 165 | n => n, fun | n => n⟩
theorem sortLay : Go.Proofs.SlLaysF0.n6 Try.prog sortLay_ren where
  mixed := by kernel_rfl
  f6 := ⟨Try.f55.name, by decide, Try.func55.trans (congrArg some (by kernel_rfl))⟩
  f14 := ⟨Try.f89.name, by decide, Try.func89.trans (congrArg some (by kernel_rfl))⟩
  f15 := Try.func90.trans (congrArg some (by kernel_rfl))
  f20 := ⟨Try.f110.name, by decide, Try.func110.trans (congrArg some (by kernel_rfl))⟩
  f21 := ⟨Try.f111.name, by decide, Try.func111.trans (congrArg some (by kernel_rfl))⟩
  f22 := ⟨Try.f112.name, by decide, Try.func112.trans (congrArg some (by kernel_rfl))⟩
  f23 := ⟨Try.f113.name, by decide, Try.func113.trans (congrArg some (by kernel_rfl))⟩
  f24 := ⟨Try.f114.name, by decide, Try.func114.trans (congrArg some (by kernel_rfl))⟩
  f25 := ⟨Try.f115.name, by decide, Try.func115.trans (congrArg some (by kernel_rfl))⟩
  f26 := ⟨Try.f116.name, by decide, Try.func116.trans (congrArg some (by kernel_rfl))⟩
  f27 := ⟨Try.f117.name, by decide, Try.func117.trans (congrArg some (by kernel_rfl))⟩
  f28 := Try.func118.trans (congrArg some (by kernel_rfl))
  f29 := Try.func119.trans (congrArg some (by kernel_rfl))
  f46 := ⟨Try.f127.name, by decide, Try.func127.trans (congrArg some (by kernel_rfl))⟩
  f47 := Try.func128.trans (congrArg some (by kernel_rfl))
  f48 := Try.func129.trans (congrArg some (by kernel_rfl))
  f49 := ⟨Try.f130.name, by decide, Try.func130.trans (congrArg some (by kernel_rfl))⟩
  f50 := ⟨Try.f131.name, by decide, Try.func131.trans (congrArg some (by kernel_rfl))⟩
  f57 := ⟨Try.f136.name, by decide, Try.func136.trans (congrArg some (by kernel_rfl))⟩
  t0 := Try.underlying0
  a0 := Try.isAgg0
  z0 := Try.sizeOf0
  v0 := Try.zeroValue0
  t3 := Try.underlying3
  a3 := Try.isAgg3
  z3 := Try.sizeOf3
  v3 := Try.zeroValue3
  t4 := Try.underlying4
  a4 := Try.isAgg4
  z4 := Try.sizeOf4
  v4 := Try.zeroValue4
  t5 := Try.underlying5
  a5 := Try.isAgg5
  z5 := Try.sizeOf5
  v5 := Try.zeroValue5
  t9 := Try.underlying9
  a9 := Try.isAgg9
  z9 := Try.sizeOf9
  v9 := Try.zeroValue9
  t22 := Try.underlying24
  a22 := Try.isAgg24
  z22 := Try.sizeOf24
  v22 := Try.zeroValue24
  t25 := Try.underlying105
  a25 := Try.isAgg105
  z25 := Try.sizeOf105
  v25 := Try.zeroValue105
  t39 := Try.underlying62
  a39 := Try.isAgg62
  z39 := Try.sizeOf62
  v39 := Try.zeroValue62
  t45 := Try.underlying145
  a45 := Try.isAgg145
  z45 := Try.sizeOf145
  v45 := Try.zeroValue145
  t46 := Try.underlying146
  a46 := Try.isAgg146
  z46 := Try.sizeOf146
  v46 := Try.zeroValue146
  t50 := Try.underlying135
  a50 := Try.isAgg135
  z50 := Try.sizeOf135
  v50 := Try.zeroValue135
  t53 := Try.underlying139
  a53 := Try.isAgg139
  z53 := Try.sizeOf139
  v53 := Try.zeroValue139
  t55 := Try.underlying67
  a55 := Try.isAgg67
  z55 := Try.sizeOf67
  v55 := Try.zeroValue67
  t66 := Try.underlying157
  a66 := Try.isAgg157
  z66 := Try.sizeOf157
  v66 := Try.zeroValue157
  t70 := Try.underlying161
  a70 := Try.isAgg161
  z70 := Try.sizeOf161
  v70 := Try.zeroValue161
  t76 := Try.underlying164
  a76 := Try.isAgg164
  z76 := Try.sizeOf164
  v76 := Try.zeroValue164
  t77 := Try.underlying165
  a77 := Try.isAgg165
  z77 := Try.sizeOf165
  v77 := Try.zeroValue165
theorem tI_agg (w : World) : (isAgg 50).run Try.prog w = .ok true w := by kernel_rfl
theorem tI_size (w : World) : (Go.sizeOf 50).run Try.prog w = .ok 3 w := by kernel_rfl

/-! ### The order -/
def ordI (a b c d : Int) : Int := if a < c then -1 else if c < a then 1 else if b < d then -1 else if d < b then 1 else 0
set_option maxHeartbeats 2000000 in
theorem isNaN_x (x : Int) (w : World) : Calls Try.prog 120 #[.int .i64 x] w fun e w' => e = .returned (.bool false) ∧ w' = w := by
  go_enter Try.func120, Try.ntmps120
  go_wp2
  go_ret
  exact ⟨by simp, rfl⟩
set_option maxHeartbeats 2000000 in
theorem compare_x (x y : Int) (w : World) : Calls Try.prog 92 #[.int .i64 x, .int .i64 y] w fun e w' => e = .returned (.int .i64 (Lib.compareInt x y)) ∧ w' = w := by
  go_enter Try.func92, Try.ntmps92
  go_wp2_with (go_at_call 120; refine (isNaN_x _ _).mono ?_; rintro e w' ⟨rfl, hw⟩; rw [hw])
  all_goals (go_ret; refine ⟨?_, rfl⟩; unfold Lib.compareInt; (repeat' split) <;> first | rfl | (exfalso; omega))
set_option maxHeartbeats 2000000 in
theorem or_x1 (x y : Int) (hx : ¬ x = 0) (b cap : Nat) (w : World) (h0 : w.cell? ⟨b, 0, none⟩ = some (.int .i64 x)) (h1 : w.cell? ⟨b, 1, none⟩ = some (.int .i64 y)) : Calls Try.prog 91 #[.slice (some ⟨b, 0, none⟩) 2 cap] w fun e w' => e = .returned (.int .i64 x) ∧ w' = w := by
  have hb : (x != 0) = true := by simp [hx]
  go_enter Try.func91, Try.ntmps91
  go_wp2
  refine wp_loop_rounds 3 ?_
  rw [rounds_succ]
  go_wp2
  all_goals (first | (exfalso; simp_all; done) | (go_ret; exact ⟨rfl, rfl⟩))
set_option maxHeartbeats 2000000 in
theorem or_x2 (y : Int) (hy : ¬ y = 0) (b cap : Nat) (w : World) (h0 : w.cell? ⟨b, 0, none⟩ = some (.int .i64 0)) (h1 : w.cell? ⟨b, 1, none⟩ = some (.int .i64 y)) : Calls Try.prog 91 #[.slice (some ⟨b, 0, none⟩) 2 cap] w fun e w' => e = .returned (.int .i64 y) ∧ w' = w := by
  have hb : (y != 0) = true := by simp [hy]
  go_enter Try.func91, Try.ntmps91
  go_wp2
  refine wp_loop_rounds 3 ?_
  rw [rounds_succ]
  go_wp2
  rw [rounds_succ]
  go_wp2
  all_goals (first | (exfalso; simp_all; done) | (go_ret; exact ⟨rfl, rfl⟩))
set_option maxHeartbeats 2000000 in
theorem or_x3 (b cap : Nat) (w : World) (h0 : w.cell? ⟨b, 0, none⟩ = some (.int .i64 0)) (h1 : w.cell? ⟨b, 1, none⟩ = some (.int .i64 0)) : Calls Try.prog 91 #[.slice (some ⟨b, 0, none⟩) 2 cap] w fun e w' => e = .returned (.int .i64 0) ∧ w' = w := by
  go_enter Try.func91, Try.ntmps91
  go_wp2
  refine wp_loop_rounds 3 ?_
  rw [rounds_succ]
  go_wp2
  rw [rounds_succ]
  go_wp2
  rw [rounds_succ]
  go_wp2
  all_goals (first | (exfalso; simp_all; done) | (go_ret; exact ⟨rfl, rfl⟩))
theorem or_x (x y : Int) (b cap : Nat) (w : World) (h0 : w.cell? ⟨b, 0, none⟩ = some (.int .i64 x)) (h1 : w.cell? ⟨b, 1, none⟩ = some (.int .i64 y)) : Calls Try.prog 91 #[.slice (some ⟨b, 0, none⟩) 2 cap] w fun e w' => e = .returned (.int .i64 (if x = 0 then y else x)) ∧ w' = w := by
  by_cases hx : x = 0
  · subst hx
    rw [if_pos rfl]
    by_cases hy : y = 0
    · subst hy; exact or_x3 b cap w h0 h1
    · exact or_x2 y hy b cap w h0 h1
  · rw [if_neg hx]; exact or_x1 x y hx b cap w h0 h1
def orI (x y : Int) : Int := if x = 0 then y else x
theorem alloc2 (W : World) (o1 o2 : Obj) : ((W.alloc o1).alloc o2).heap.size = W.heap.size + 1 + 1 := by
  show ((W.heap.push o1).push o2).size = _
  rw [Array.size_push, Array.size_push]
theorem or_y (x y : Int) (W : World) (n : Nat) (hn : W.heap.size = n) : Calls Try.prog 91 #[.slice (some ⟨n, 0, none⟩) 2 2] (W.alloc (Obj.cells #[.int .i64 x, .int .i64 y] 3)) fun e w' => e = .returned (.int .i64 (orI x y)) ∧ w' = W.alloc (Obj.cells #[.int .i64 x, .int .i64 y] 3) := by
  subst hn
  have hg : ∀ k : Nat, (W.alloc (Obj.cells #[.int .i64 x, .int .i64 y] 3)).cell? ⟨W.heap.size, k, none⟩ = #[(Value.int .i64 x), .int .i64 y][k]? := fun k => by
    have : (W.alloc (Obj.cells #[.int .i64 x, .int .i64 y] 3)).heap[W.heap.size]? = some (Obj.cells #[.int .i64 x, .int .i64 y] 3) := by
      show (W.heap.push _)[W.heap.size]? = _
      simp
    simp only [World.cell?, this]
    rfl
  exact or_x x y _ _ _ (hg 0) (hg 1)
theorem still_tail_at {P : Program} {id : Nat} {Q : Exit → Act → World → Prop} {a : Act} {w : World} {l : List Oper} (n : Nat) (hm : P.follows .mixedOrders = true) (hB : Region.lexTailB .any l.toArray n = true)
    (h : ∀ w2 : World, w2 = w.drew → wpStill P l.toArray w2 (fun a' => wpList P l.toArray Q (l.drop n) a' w2) (l.take n) a) : (Code.region id l.toArray true).wp P Q a w := wp_region_still_tail n hm hB (h _ rfl)
theorem two_cells (W : World) (o1 o2 : Obj) (c1 c2 : Array Value) (e1 e2 : TypeId) (h1 : o1 = .cells c1 e1) (h2 : o2 = .cells c2 e2) (W3 : World) (hW : W3 = ((W.alloc o1).alloc o2).drew) :
    (∀ k, W3.cell? ⟨W.heap.size, k, none⟩ = c1[k]?) ∧ (∀ k, W3.cell? ⟨W.heap.size + 1, k, none⟩ = c2[k]?) ∧ W3.heap.size = W.heap.size + 1 + 1 ∧ W3 = grow (W.drewN 1) #[o1, o2] := by
  subst h1; subst h2
  have hh : W3.heap = (W.heap.push (.cells c1 e1)).push (.cells c2 e2) := by rw [hW]; rfl
  have i1 : W3.heap[W.heap.size]? = some (.cells c1 e1) := by rw [hh, Array.getElem?_push, if_neg (by rw [Array.size_push]; omega), Array.getElem?_push, if_pos rfl]
  have i2 : W3.heap[W.heap.size + 1]? = some (.cells c2 e2) := by rw [hh, Array.getElem?_push, if_pos (by rw [Array.size_push])]
  refine ⟨fun k => ?_, fun k => ?_, by rw [hh, Array.size_push, Array.size_push], ?_⟩
  · simp only [World.cell?, i1]; rfl
  · simp only [World.cell?, i2]; rfl
  · subst hW
    rw [alloc_eq_grow, alloc_eq_grow, grow_grow]
    rfl
set_option maxHeartbeats 2000000 in
theorem less_x (a b c d : Int) (u v : Value) (W : World) : Calls Try.prog 56 #[.agg #[.int .i64 a, .int .i64 b, u], .agg #[.int .i64 c, .int .i64 d, v]] W fun e w' => e = .returned (.int .i64 (orI (Lib.compareInt a c) (Lib.compareInt b d))) ∧ ∃ q os', w' = grow (W.drewN q) os' := by
  have hor := fun x y W' n hn => or_y x y W' n hn
  go_enter Try.func56, Try.ntmps56
  go_wp2
  refine still_tail_at 10 (by kernel_rfl) (by kernel_rfl) fun W3 hW3 => ?_
  obtain ⟨f1, f2, fs, fg⟩ := two_cells W _ _ _ _ _ _ rfl rfl W3 hW3
  clear hW3
  have a0 : W3.cell? ⟨W.heap.size, 0, none⟩ = some (.int .i64 a) := f1 0
  have a1 : W3.cell? ⟨W.heap.size, 1, none⟩ = some (.int .i64 b) := f1 1
  have b0 : W3.cell? ⟨W.heap.size + 1, 0, none⟩ = some (.int .i64 c) := f2 0
  have b1 : W3.cell? ⟨W.heap.size + 1, 1, none⟩ = some (.int .i64 d) := f2 1
  clear f1 f2
  have HD : Hid (W3 = _) := fg
  clear fg fs
  simp only [List.take_succ_cons, List.take_zero, List.drop_succ_cons, List.drop_zero]
  still_step
  still_step
  still_step
  still_step
  still_call (compare_x _ _ _)
  still_step
  still_step
  still_step
  still_step
  still_call (compare_x _ _ _)
  refine wpStill_nil ?_
  generalize h1 : Lib.compareInt a c = r1
  generalize h2 : Lib.compareInt b d = r2
  have hc := hor r1 r2 W3 W3.heap.size rfl
  clear hor
  generalize h3 : orI r1 r2 = r3 at hc
  go_wp2_with fail
  refine hc.mono ?_
  rintro e w' ⟨rfl, rfl⟩
  go_wp2_with fail
  go_ret
  constructor
  · rw [h1, h2, h3]; rfl
  · exact ⟨1, #[_, _] ++ #[_], by rw [HD.out, alloc_eq_grow, grow_grow]⟩

/-! ### Sorting inputs -/
def InLt (a b : Inp) : Prop := a.turn < b.turn ∨ (a.turn = b.turn ∧ a.player < b.player)
instance (a b : Inp) : Decidable (InLt a b) := by unfold InLt; exact inferInstance
structure Ik where
  i : Inp
  v : Value
  h : v.oneCell' = true
instance : Inhabited Ik := ⟨⟨default, .bool false, rfl⟩⟩
def Ik.enc (x : Ik) : List Value := [.int .i64 x.i.turn, .int .i64 x.i.player, x.v]
def cfI (x y : Ik) : Int := orI (Lib.compareInt x.i.turn y.i.turn) (Lib.compareInt x.i.player y.i.player)
theorem orI_lt (a b c d : Int) : orI (Lib.compareInt a c) (Lib.compareInt b d) < 0 ↔ (a < c ∨ (a = c ∧ b < d)) := by
  unfold orI Lib.compareInt
  by_cases h1 : a < c
  · simp [h1]
  · by_cases h2 : c < a
    · simp [h1, h2]; omega
    · have h3 : a = c := by omega
      subst h3
      by_cases h4 : b < d
      · simp [h4]
      · by_cases h5 : d < b <;> simp [h4, h5]
theorem cfI_lt (x y : Ik) : ltOf cfI x y = decide (InLt x.i y.i) := decide_eq_decide.2 (orI_lt _ _ _ _)
theorem cfI_swo : SWO (ltOf cfI) where
  irrefl x := by rw [cfI_lt]; simp [InLt]
  trans x y z h1 h2 := by rw [cfI_lt, decide_eq_true_eq] at h1 h2 ⊢; unfold InLt at *; omega
  ntrans x y z h1 h2 := by rw [cfI_lt, decide_eq_false_iff_not] at h1 h2 ⊢; unfold InLt at *; omega
def leI (a b : Inp) : Bool := !decide (InLt b a)
def SortedI (l : List Inp) : Prop := l.Pairwise fun a b => ¬ InLt b a
def slices_CloneI (a : List Inp) : Option (List Inp) := if a.length < 1099511627776 then some a else none
def CmdS (c : Cmd) : Prop := c.units.length ≤ 1000000
def InpS (i : Inp) : Prop := i.commands.length ≤ 1000000 ∧ ∀ c ∈ i.commands, CmdS c
def InpsS (l : List Inp) : Prop := l.length ≤ 1000000 ∧ ∀ i ∈ l, InpS i
instance (c : Cmd) : Decidable (CmdS c) := by unfold CmdS; exact inferInstance
instance (i : Inp) : Decidable (InpS i) := by unfold InpS; exact inferInstance
instance (l : List Inp) : Decidable (InpsS l) := by unfold InpsS; exact inferInstance
def slices_SortFuncI (a : List Inp) : Option (List Inp) := if InpsS a then some (a.mergeSort leI) else none
theorem slices_CloneI_walk (a : List Inp) (w : World) {v0 : Value} (B : Hp) (hB : B.le (hpOf w)) (h0 : R B a [v0]) {r : List Inp} (H : slices_CloneI a = some r) :
    Calls Try.prog 54 #[v0] w fun e w' => ∃ g : (Option Nat × Nat), e = .returned (rowV g r.length) ∧ Sat w [rowG (FB B) 50 (rowV g r.length) r] w' := by
  unfold slices_CloneI at H
  obtain ⟨h1, H⟩ := gdE H
  obtain rfl := Option.some.inj H
  obtain ⟨rs, h2, h3, h4⟩ := R_raw (β := Inp) rfl h0
  have hc : slices_Clone_RawI rs = some rs := by unfold slices_Clone_RawI; rw [if_pos (by rw [h4]; exact h1)]
  refine (slices_Clone_RawI_walk rs w (Enc.mono hB h2) hc).mono ?_
  rintro e w' ⟨g, he, s⟩
  refine ⟨g, by rw [he, h4], ?_⟩
  have s2 := Sat.rawFB (β := Inp) rfl 0 (fun b o hb => lt_of_hp (hB b o hb)) h3 h4 s rfl
  rw [← h4]
  exact s2
theorem iks {H : Hp} : ∀ {xs : List Inp} {cs : List Value}, RF H xs cs → ∃ zs : List Ik, zs.map (·.i) = xs ∧ cs = zs.flatMap Ik.enc ∧ ∀ z ∈ zs, R H z.i z.enc
  | [], cs, e => ⟨[], rfl, e, fun _ h => by cases h⟩
  | x :: xs, cs, ⟨c, r, e, hx, hr⟩ => by
    obtain ⟨zs, h1, h2, h3⟩ := iks hr
    obtain ⟨u, rfl, hu⟩ := hx
    refine ⟨⟨x, u, Enc.one hu _ (by simp)⟩ :: zs, by simp [h1], by rw [e, h2]; rfl, fun z hz => ?_⟩
    rcases List.mem_cons.1 hz with rfl | hz
    · exact ⟨u, rfl, hu⟩
    · exact h3 z hz
theorem iks_rf {H : Hp} : ∀ {zs : List Ik}, (∀ z ∈ zs, R H z.i z.enc) → RF H (zs.map (·.i)) (zs.flatMap Ik.enc)
  | [], _ => rfl
  | z :: zs, h => ⟨z.enc, _, rfl, h z (by simp), iks_rf fun y hy => h y (by simp [hy])⟩
theorem slices_SortFuncI_walk {w0 : World} {F : Ch} {B : Hp} (a0 : List Inp) {q0 : Option Nat × Nat} {m0 : Nat} (hm : m0 = a0.length) {r : List Inp} (H : slices_SortFuncI a0 = some r) (w : World) (s : Sat w0 [rowG (FB B) 50 (rowV q0 m0) a0, F] w) :
    Calls Try.prog 55 #[rowV q0 m0, .func (.func 56) #[] #[]] w fun e w' => ∃ y : {y : List Inp // y.Perm a0 ∧ SortedI y}, e = .returned (.tuple #[]) ∧ Sat w0 [rowG (FB B) 50 (rowV q0 m0) y.1, F] w' := by
  subst hm
  unfold slices_SortFuncI at H
  obtain ⟨⟨hlt, _⟩, _⟩ := gdE H
  obtain ⟨p, hp, s1⟩ := s.freeze 0 rfl
  rcases hp with ⟨hv, hnil, _⟩ | ⟨g, cap, cs, sp, hv, hg, h3, h4, h5, h6⟩
  · subst hnil
    have hc := AnyF.slices_SortFunc_none sortLay none 0 (.func (.func 56) #[] #[]) w
    rw [hv]
    rw [hv] at s
    refine Calls.mono (show Calls Try.prog 55 #[.slice none 0 0, .func (.func 56) #[] #[]] w _ from hc) ?_
    rintro e w' ⟨rfl, rfl⟩
    exact ⟨⟨[], List.Perm.refl _, List.Pairwise.nil⟩, rfl, s⟩
  · obtain ⟨zs, hz1, hz2, hz3⟩ := iks (show RF _ a0 cs from h6)
    have hzl : zs.length = a0.length := by rw [← hz1]; simp
    have s2 := s1.weaken 0 rfl (fun h => h g = some (.cells (zs.flatMap Ik.enc ++ sp).toArray 50 (0, 0)) ∧ h.off g = p.off g) (fun r hr => by rw [show r = p from hr]; exact ⟨by rw [← hz2]; exact hg, rfl⟩)
    have eg : ∀ args w, (callFunc 56 args).run Try.prog w = .ok (.enter 56 args) w := enters_of Try.func56 (by kernel_rfl) rfl
    have hc := sort_core sortLay 3 (by decide) tI_agg tI_size Ik.enc (fun _ => rfl) (fun x u hu => by
      simp only [Ik.enc, List.mem_cons, List.not_mem_nil, or_false] at hu
      rcases hu with rfl | rfl | rfl
      · rfl
      · rfl
      · exact x.h) cfI cfI_swo 56 eg (fun x y W => less_x _ _ _ _ _ _ W) g cap zs sp 50 (fun h => h = p.off g) (by omega) s2
    obtain ⟨hperm, hlen, hsort⟩ := sortF_spec cfI_swo zs
    rw [hv]
    refine Calls.mono (show Calls Try.prog 55 #[.slice (some ⟨g, 0, none⟩) a0.length cap, .func (.func 56) #[] #[]] w _ from by rw [← hzl]; exact hc) ?_
    rintro e w' ⟨rfl, s3⟩
    refine ⟨⟨(sortF (ltOf cfI) zs).map (·.i), by rw [← hz1]; exact hperm.map _, ?_⟩, rfl, ?_⟩
    · unfold SortedI
      rw [List.pairwise_map, List.pairwise_iff_getElem]
      intro i j hi hj hij
      have := hsort i j hij (by rw [← hlen]; exact hj)
      rw [cfI_lt, decide_eq_false_iff_not, getElem!_pos _ i hi, getElem!_pos _ j hj] at this
      exact this
    · have hl2 : ((sortF (ltOf cfI) zs).map (·.i)).length = a0.length := by rw [List.length_map, hlen, hzl]
      have s4 := s3.weaken 0 rfl (rowG (FB B) 50 (.slice (some ⟨g, 0, none⟩) a0.length cap) ((sortF (ltOf cfI) zs).map (·.i))) (fun h hr => .inr ⟨g, cap, _, sp, by rw [hl2], hr.1, by rw [hl2]; exact h3, h4, ?_, ?_⟩)
      · exact s4
      · have e1 := flatMap_len Ik.enc 3 (fun _ => rfl) (sortF (ltOf cfI) zs)
        have e2 := flatMap_len Ik.enc 3 (fun _ => rfl) zs
        rw [hz2, List.length_append, e2, ← hlen, ← e1, ← List.length_append] at h5
        exact h5
      · show RF ((h.off g).over B) _ _
        rw [hr.2]
        exact iks_rf fun z hz => hz3 z (hperm.mem_iff.1 hz)
end Go.Proofs.Ytlpmiledfcblfaa
