/-
  slices.SortFunc of portals, and their order. The conditions stand in each lemma.
-/
import Derived.Test.YthdbofgcckjopaaPQO
import Derived.Test.YthdbofgcckjopaaW3
import Derived.Lib.Walk
import Derived.StillTailTactics

set_option linter.unusedVariables false
set_option linter.unusedSimpArgs false
set_option maxRecDepth 100000
namespace Go.Proofs.Ythdbofgcckjopaa
open Go.Shelf Go.RowKit Go.Lib Go.Sort
open Go.Vg
open Enc (R)
def sortLay_ren : Go.Shelf.Ren := ⟨fun | 6 => 44 | 15 => 68 | 14 => 67 | 28 => 86 | 29 => 87 | 20 => 78 | 21 => 79 | 22 => 80 | 23 => 81 | 24 => 82 | 25 => 83 | 26 => 84 | 27 => 85 | 46 => 92 | 47 => 93 | 48 => 94 | 49 => 95 | 50 => 96 | 57 => 99 | n => n, fun | 22 => 64 | 24 => 70 | 25 => 89 | 3 => 3 | 39 => 110 | 0 => 0 | 53 => 128 | 55 => 130 | 4 => 4 | 46 => 121 | 45 => 120 | 50 => 125 | 5 => 5 | 9 => 9 | 66 => 139 | 70 => 143 | 76 => 149 | 77 => 135 | n => n, fun | n => n⟩
theorem sortLay : Go.Proofs.SlLaysF0.n6 Try.prog sortLay_ren where
  mixed := by kernel_rfl
  f6 := ⟨Try.f44.name, by decide, Try.func44.trans (congrArg some (by kernel_rfl))⟩
  f14 := ⟨Try.f67.name, by decide, Try.func67.trans (congrArg some (by kernel_rfl))⟩
  f15 := Try.func68.trans (congrArg some (by kernel_rfl))
  f20 := ⟨Try.f78.name, by decide, Try.func78.trans (congrArg some (by kernel_rfl))⟩
  f21 := ⟨Try.f79.name, by decide, Try.func79.trans (congrArg some (by kernel_rfl))⟩
  f22 := ⟨Try.f80.name, by decide, Try.func80.trans (congrArg some (by kernel_rfl))⟩
  f23 := ⟨Try.f81.name, by decide, Try.func81.trans (congrArg some (by kernel_rfl))⟩
  f24 := ⟨Try.f82.name, by decide, Try.func82.trans (congrArg some (by kernel_rfl))⟩
  f25 := ⟨Try.f83.name, by decide, Try.func83.trans (congrArg some (by kernel_rfl))⟩
  f26 := ⟨Try.f84.name, by decide, Try.func84.trans (congrArg some (by kernel_rfl))⟩
  f27 := ⟨Try.f85.name, by decide, Try.func85.trans (congrArg some (by kernel_rfl))⟩
  f28 := Try.func86.trans (congrArg some (by kernel_rfl))
  f29 := Try.func87.trans (congrArg some (by kernel_rfl))
  f46 := ⟨Try.f92.name, by decide, Try.func92.trans (congrArg some (by kernel_rfl))⟩
  f47 := Try.func93.trans (congrArg some (by kernel_rfl))
  f48 := Try.func94.trans (congrArg some (by kernel_rfl))
  f49 := ⟨Try.f95.name, by decide, Try.func95.trans (congrArg some (by kernel_rfl))⟩
  f50 := ⟨Try.f96.name, by decide, Try.func96.trans (congrArg some (by kernel_rfl))⟩
  f57 := ⟨Try.f99.name, by decide, Try.func99.trans (congrArg some (by kernel_rfl))⟩
  t0 := Try.underlying0
  a0 := Try.isAgg0
  z0 := Try.sizeOf0
  v0 := Try.zeroValue0
  t3 := Try.underlying3
  a3 := Try.isAgg3
  z3 := Try.sizeOf3
  v3 := Try.zeroValue3
  t4 := Try.underlying4
  a4 := Try.isAgg4
  z4 := Try.sizeOf4
  v4 := Try.zeroValue4
  t5 := Try.underlying5
  a5 := Try.isAgg5
  z5 := Try.sizeOf5
  v5 := Try.zeroValue5
  t9 := Try.underlying9
  a9 := Try.isAgg9
  z9 := Try.sizeOf9
  v9 := Try.zeroValue9
  t22 := Try.underlying64
  a22 := Try.isAgg64
  z22 := Try.sizeOf64
  v22 := Try.zeroValue64
  t25 := Try.underlying89
  a25 := Try.isAgg89
  z25 := Try.sizeOf89
  v25 := Try.zeroValue89
  t39 := Try.underlying110
  a39 := Try.isAgg110
  z39 := Try.sizeOf110
  v39 := Try.zeroValue110
  t45 := Try.underlying120
  a45 := Try.isAgg120
  z45 := Try.sizeOf120
  v45 := Try.zeroValue120
  t46 := Try.underlying121
  a46 := Try.isAgg121
  z46 := Try.sizeOf121
  v46 := Try.zeroValue121
  t50 := Try.underlying125
  a50 := Try.isAgg125
  z50 := Try.sizeOf125
  v50 := Try.zeroValue125
  t53 := Try.underlying128
  a53 := Try.isAgg128
  z53 := Try.sizeOf128
  v53 := Try.zeroValue128
  t55 := Try.underlying130
  a55 := Try.isAgg130
  z55 := Try.sizeOf130
  v55 := Try.zeroValue130
  t66 := Try.underlying139
  a66 := Try.isAgg139
  z66 := Try.sizeOf139
  v66 := Try.zeroValue139
  t70 := Try.underlying143
  a70 := Try.isAgg143
  z70 := Try.sizeOf143
  v70 := Try.zeroValue143
  t76 := Try.underlying149
  a76 := Try.isAgg149
  z76 := Try.sizeOf149
  v76 := Try.zeroValue149
  t77 := Try.underlying135
  a77 := Try.isAgg135
  z77 := Try.sizeOf135
  v77 := Try.zeroValue135
theorem tI_agg (w : World) : (isAgg 70).run Try.prog w = .ok true w := by kernel_rfl
theorem tI_size (w : World) : (Go.sizeOf 70).run Try.prog w = .ok 3 w := by kernel_rfl

/-! ### The order -/
set_option maxHeartbeats 2000000 in
theorem isNaN_x (x : Int) (w : World) : Calls Try.prog 69 #[.int .i64 x] w fun e w' => e = .returned (.bool false) ∧ w' = w := by
  go_enter Try.func69, Try.ntmps69
  go_wp2
  go_ret
  exact ⟨by simp, rfl⟩
set_option maxHeartbeats 2000000 in
theorem compare_x (x y : Int) (w : World) : Calls Try.prog 47 #[.int .i64 x, .int .i64 y] w fun e w' => e = .returned (.int .i64 (Lib.compareInt x y)) ∧ w' = w := by
  go_enter Try.func47, Try.ntmps47
  go_wp2_with (go_at_call 69; refine (isNaN_x _ _).mono ?_; rintro e w' ⟨rfl, hw⟩; rw [hw])
  all_goals (go_ret; refine ⟨?_, rfl⟩; unfold Lib.compareInt; (repeat' split) <;> first | rfl | (exfalso; omega))
set_option maxHeartbeats 2000000 in
theorem or_x1 (x y : Int) (hx : ¬ x = 0) (b cap : Nat) (w : World) (h0 : w.cell? ⟨b, 0, none⟩ = some (.int .i64 x)) (h1 : w.cell? ⟨b, 1, none⟩ = some (.int .i64 y)) : Calls Try.prog 46 #[.slice (some ⟨b, 0, none⟩) 2 cap] w fun e w' => e = .returned (.int .i64 x) ∧ w' = w := by
  have hb : (x != 0) = true := by simp [hx]
  go_enter Try.func46, Try.ntmps46
  go_wp2
  refine wp_loop_rounds 3 ?_
  rw [rounds_succ]
  go_wp2
  all_goals (first | (exfalso; simp_all; done) | (go_ret; exact ⟨rfl, rfl⟩))
set_option maxHeartbeats 2000000 in
theorem or_x2 (y : Int) (hy : ¬ y = 0) (b cap : Nat) (w : World) (h0 : w.cell? ⟨b, 0, none⟩ = some (.int .i64 0)) (h1 : w.cell? ⟨b, 1, none⟩ = some (.int .i64 y)) : Calls Try.prog 46 #[.slice (some ⟨b, 0, none⟩) 2 cap] w fun e w' => e = .returned (.int .i64 y) ∧ w' = w := by
  have hb : (y != 0) = true := by simp [hy]
  go_enter Try.func46, Try.ntmps46
  go_wp2
  refine wp_loop_rounds 3 ?_
  rw [rounds_succ]
  go_wp2
  rw [rounds_succ]
  go_wp2
  all_goals (first | (exfalso; simp_all; done) | (go_ret; exact ⟨rfl, rfl⟩))
set_option maxHeartbeats 2000000 in
theorem or_x3 (b cap : Nat) (w : World) (h0 : w.cell? ⟨b, 0, none⟩ = some (.int .i64 0)) (h1 : w.cell? ⟨b, 1, none⟩ = some (.int .i64 0)) : Calls Try.prog 46 #[.slice (some ⟨b, 0, none⟩) 2 cap] w fun e w' => e = .returned (.int .i64 0) ∧ w' = w := by
  go_enter Try.func46, Try.ntmps46
  go_wp2
  refine wp_loop_rounds 3 ?_
  rw [rounds_succ]
  go_wp2
  rw [rounds_succ]
  go_wp2
  rw [rounds_succ]
  go_wp2
  all_goals (first | (exfalso; simp_all; done) | (go_ret; exact ⟨rfl, rfl⟩))
theorem or_x (x y : Int) (b cap : Nat) (w : World) (h0 : w.cell? ⟨b, 0, none⟩ = some (.int .i64 x)) (h1 : w.cell? ⟨b, 1, none⟩ = some (.int .i64 y)) : Calls Try.prog 46 #[.slice (some ⟨b, 0, none⟩) 2 cap] w fun e w' => e = .returned (.int .i64 (if x = 0 then y else x)) ∧ w' = w := by
  by_cases hx : x = 0
  · subst hx
    rw [if_pos rfl]
    by_cases hy : y = 0
    · subst hy; exact or_x3 b cap w h0 h1
    · exact or_x2 y hy b cap w h0 h1
  · rw [if_neg hx]; exact or_x1 x y hx b cap w h0 h1
def orI (x y : Int) : Int := if x = 0 then y else x
theorem or_y (x y : Int) (W : World) (n : Nat) (hn : W.heap.size = n) : Calls Try.prog 46 #[.slice (some ⟨n, 0, none⟩) 2 2] (W.alloc (Obj.cells #[.int .i64 x, .int .i64 y] 3)) fun e w' => e = .returned (.int .i64 (orI x y)) ∧ w' = W.alloc (Obj.cells #[.int .i64 x, .int .i64 y] 3) := by
  subst hn
  have hg : ∀ k : Nat, (W.alloc (Obj.cells #[.int .i64 x, .int .i64 y] 3)).cell? ⟨W.heap.size, k, none⟩ = #[(Value.int .i64 x), .int .i64 y][k]? := fun k => by
    have : (W.alloc (Obj.cells #[.int .i64 x, .int .i64 y] 3)).heap[W.heap.size]? = some (Obj.cells #[.int .i64 x, .int .i64 y] 3) := by
      show (W.heap.push _)[W.heap.size]? = _
      simp
    simp only [World.cell?, this]
    rfl
  exact or_x x y _ _ _ (hg 0) (hg 1)
theorem still_tail_at {P : Program} {id : Nat} {Q : Exit → Act → World → Prop} {a : Act} {w : World} {l : List Oper} (n : Nat) (hm : P.follows .mixedOrders = true) (hB : Region.lexTailB .any l.toArray n = true)
    (h : ∀ w2 : World, w2 = w.drew → wpStill P l.toArray w2 (fun a' => wpList P l.toArray Q (l.drop n) a' w2) (l.take n) a) : (Code.region id l.toArray true).wp P Q a w := wp_region_still_tail n hm hB (h _ rfl)
theorem two_cells (W : World) (o1 o2 : Obj) (c1 c2 : Array Value) (e1 e2 : TypeId) (h1 : o1 = .cells c1 e1) (h2 : o2 = .cells c2 e2) (W3 : World) (hW : W3 = ((W.alloc o1).alloc o2).drew) :
    (∀ k, W3.cell? ⟨W.heap.size, k, none⟩ = c1[k]?) ∧ (∀ k, W3.cell? ⟨W.heap.size + 1, k, none⟩ = c2[k]?) ∧ W3.heap.size = W.heap.size + 1 + 1 ∧ W3 = grow (W.drewN 1) #[o1, o2] := by
  subst h1; subst h2
  have hh : W3.heap = (W.heap.push (.cells c1 e1)).push (.cells c2 e2) := by rw [hW]; rfl
  have i1 : W3.heap[W.heap.size]? = some (.cells c1 e1) := by rw [hh, Array.getElem?_push, if_neg (by rw [Array.size_push]; omega), Array.getElem?_push, if_pos rfl]
  have i2 : W3.heap[W.heap.size + 1]? = some (.cells c2 e2) := by rw [hh, Array.getElem?_push, if_pos (by rw [Array.size_push])]
  refine ⟨fun k => ?_, fun k => ?_, by rw [hh, Array.size_push, Array.size_push], ?_⟩
  · simp only [World.cell?, i1]; rfl
  · simp only [World.cell?, i2]; rfl
  · subst hW
    rw [alloc_eq_grow, alloc_eq_grow, grow_grow]
    rfl
set_option maxHeartbeats 2000000 in
theorem less_x (a b c d u v : Int) (W : World) : Calls Try.prog 45 #[.agg #[.int .i64 a, .int .i64 b, .int .i64 u], .agg #[.int .i64 c, .int .i64 d, .int .i64 v]] W fun e w' => e = .returned (.int .i64 (orI (Lib.compareInt a c) (Lib.compareInt b d))) ∧ ∃ q os', w' = grow (W.drewN q) os' := by
  have hor := fun x y W' n hn => or_y x y W' n hn
  go_enter Try.func45, Try.ntmps45
  go_wp2
  refine still_tail_at 10 (by kernel_rfl) (by kernel_rfl) fun W3 hW3 => ?_
  obtain ⟨f1, f2, fs, fg⟩ := two_cells W _ _ _ _ _ _ rfl rfl W3 hW3
  clear hW3
  have a0 : W3.cell? ⟨W.heap.size, 0, none⟩ = some (.int .i64 a) := f1 0
  have a1 : W3.cell? ⟨W.heap.size, 1, none⟩ = some (.int .i64 b) := f1 1
  have b0 : W3.cell? ⟨W.heap.size + 1, 0, none⟩ = some (.int .i64 c) := f2 0
  have b1 : W3.cell? ⟨W.heap.size + 1, 1, none⟩ = some (.int .i64 d) := f2 1
  clear f1 f2
  have HD : Hid (W3 = _) := fg
  clear fg fs
  simp only [List.take_succ_cons, List.take_zero, List.drop_succ_cons, List.drop_zero]
  still_step
  still_step
  still_step
  still_step
  still_call (compare_x _ _ _)
  still_step
  still_step
  still_step
  still_step
  still_call (compare_x _ _ _)
  refine wpStill_nil ?_
  generalize h1 : Lib.compareInt a c = r1
  generalize h2 : Lib.compareInt b d = r2
  have hc := hor r1 r2 W3 W3.heap.size rfl
  clear hor
  generalize h3 : orI r1 r2 = r3 at hc
  go_wp2_with fail
  refine hc.mono ?_
  rintro e w' ⟨rfl, rfl⟩
  go_wp2_with fail
  go_ret
  constructor
  · rw [h1, h2, h3]; rfl
  · exact ⟨1, #[_, _] ++ #[_], by rw [HD.out, alloc_eq_grow, grow_grow]⟩

/-! ### Sorting portals -/
def PrLt (x y : Prt) : Prop := x.a < y.a ∨ (x.a = y.a ∧ x.b < y.b)
instance (x y : Prt) : Decidable (PrLt x y) := by unfold PrLt; exact inferInstance
def Prt.cs (x : Prt) : List Value := [.int .i64 x.a, .int .i64 x.b, .int .i64 x.width]
def cfP (x y : Prt) : Int := orI (Lib.compareInt x.a y.a) (Lib.compareInt x.b y.b)
theorem orI_lt (a b c d : Int) : orI (Lib.compareInt a c) (Lib.compareInt b d) < 0 ↔ (a < c ∨ (a = c ∧ b < d)) := by
  unfold orI Lib.compareInt
  by_cases h1 : a < c
  · simp [h1]
  · by_cases h2 : c < a
    · simp [h1, h2]; omega
    · have h3 : a = c := by omega
      subst h3
      by_cases h4 : b < d
      · simp [h4]
      · by_cases h5 : d < b <;> simp [h4, h5]
theorem cfP_lt (x y : Prt) : ltOf cfP x y = decide (PrLt x y) := decide_eq_decide.2 (orI_lt _ _ _ _)
theorem cfP_swo : SWO (ltOf cfP) where
  irrefl x := by rw [cfP_lt]; simp [PrLt]
  trans x y z h1 h2 := by rw [cfP_lt, decide_eq_true_eq] at h1 h2 ⊢; unfold PrLt at *; omega
  ntrans x y z h1 h2 := by rw [cfP_lt, decide_eq_false_iff_not] at h1 h2 ⊢; unfold PrLt at *; omega
def leP (a b : Prt) : Bool := !decide (PrLt b a)
/-- Sorted, and no two of one place. -/
def StrP (l : List Prt) : Prop := l.Pairwise PrLt
/-- No two of one place. -/
def DisP (l : List Prt) : Prop := l.Pairwise fun x y => ¬ (x.a = y.a ∧ x.b = y.b)
instance (l : List Prt) : Decidable (DisP l) := by unfold DisP; exact inferInstance
theorem strP_uniq : ∀ {l m : List Prt}, StrP l → StrP m → l.Perm m → l = m := fun {l m} h1 h2 hp =>
  List.Perm.eq_of_pairwise (le := PrLt) (fun a b _ _ h k => by unfold PrLt at h k; omega) h1 h2 hp
theorem strP_of {l : List Prt} (h : DisP l) (hs : l.Pairwise fun a b => ¬ PrLt b a) : StrP l :=
  (List.Pairwise.and h hs).imp fun {a b} ⟨h1, h2⟩ => by unfold PrLt at *; omega
theorem disP_perm {l m : List Prt} (hp : l.Perm m) (h : DisP l) : DisP m := hp.pairwise h (fun {a b} k q => k ⟨q.1.symm, q.2.symm⟩)
theorem sortP_str {l : List Prt} (h : DisP l) : StrP (l.mergeSort leP) := by
  refine strP_of (disP_perm (List.mergeSort_perm l leP).symm h) ?_
  have := List.pairwise_mergeSort (le := leP) (fun a b c h1 h2 => by simp only [leP, Bool.not_eq_true', decide_eq_false_iff_not] at *; unfold PrLt at *; omega) (fun a b => by simp only [leP, Bool.or_eq_true, Bool.not_eq_true', decide_eq_false_iff_not]; unfold PrLt; omega) l
  exact this.imp fun {a b} h1 => by simpa [leP] using h1
def slices_SortFuncP (a : List Prt) : Option (List Prt) := if a.length ≤ 1000000 ∧ DisP a then some (a.mergeSort leP) else none
theorem rfP {H : Hp} : ∀ {xs : List Prt} {cs : List Value}, RF H xs cs ↔ cs = xs.flatMap Prt.cs
  | [], cs => ⟨fun e => e, fun e => e⟩
  | x :: xs, cs => by
    constructor
    · rintro ⟨c, r, e, hx, hr⟩
      have hx : c = x.cs := hx
      rw [e, hx, rfP.1 hr]; rfl
    · intro e
      exact ⟨x.cs, xs.flatMap Prt.cs, by rw [e]; rfl, rfl, rfP.2 rfl⟩
theorem slices_SortFuncP_walk {w0 : World} {F : Ch} (a0 : List Prt) {q0 : Option Nat × Nat} {m0 : Nat} (hm : m0 = a0.length) {r : List Prt} (H : slices_SortFuncP a0 = some r) (w : World) (s : Sat w0 [row nilH 70 (rowV q0 m0) a0, F] w) :
    Calls Try.prog 44 #[rowV q0 m0, .func (.func 45) #[] #[]] w fun e w' => e = .returned (.tuple #[]) ∧ Sat w0 [row nilH 70 (rowV q0 m0) r, F] w' := by
  subst hm
  unfold slices_SortFuncP at H
  obtain ⟨⟨hlt, hdis⟩, H⟩ := gdE H
  obtain rfl := Option.some.inj H
  obtain ⟨p, hp, s1⟩ := s.freeze 0 rfl
  rcases hp with ⟨hv, hnil⟩ | ⟨g, cap, cs, sp, hv, hg, h3, h4, h5, h6⟩
  · subst hnil
    have hc := AnyF.slices_SortFunc_none sortLay none 0 (.func (.func 45) #[] #[]) w
    rw [hv]
    rw [hv] at s
    refine Calls.mono (show Calls Try.prog 44 #[.slice none 0 0, .func (.func 45) #[] #[]] w _ from hc) ?_
    rintro e w' ⟨rfl, rfl⟩
    exact ⟨rfl, by simpa using s⟩
  · have hz2 := rfP.1 (show RF _ a0 cs from h6)
    have s2 := s1.weaken 0 rfl (fun h => h g = some (.cells (a0.flatMap Prt.cs ++ sp).toArray 70 (0, 0)) ∧ h.off g = p.off g) (fun r hr => by rw [show r = p from hr]; exact ⟨by rw [← hz2]; exact hg, rfl⟩)
    have eg : ∀ args w, (callFunc 45 args).run Try.prog w = .ok (.enter 45 args) w := enters_of Try.func45 (by kernel_rfl) rfl
    have hc := sort_core sortLay 3 (by decide) tI_agg tI_size Prt.cs (fun _ => rfl) (fun x u hu => by
      simp only [Prt.cs, List.mem_cons, List.not_mem_nil, or_false] at hu
      rcases hu with rfl | rfl | rfl <;> rfl) cfP cfP_swo 45 eg (fun x y W => less_x _ _ _ _ _ _ W) g cap a0 sp 70 (fun h => h = p.off g) (by omega) s2
    obtain ⟨hperm, hlen, hsort⟩ := sortF_spec cfP_swo a0
    rw [hv]
    refine Calls.mono (show Calls Try.prog 44 #[.slice (some ⟨g, 0, none⟩) a0.length cap, .func (.func 45) #[] #[]] w _ from hc) ?_
    rintro e w' ⟨rfl, s3⟩
    have hsrt : (sortF (ltOf cfP) a0).Pairwise fun a b => ¬ PrLt b a := by
      rw [List.pairwise_iff_getElem]
      intro i j hi hj hij
      have := hsort i j hij (by rw [← hlen]; exact hj)
      rw [cfP_lt, decide_eq_false_iff_not, getElem!_pos _ i hi, getElem!_pos _ j hj] at this
      exact this
    have heq : sortF (ltOf cfP) a0 = a0.mergeSort leP := strP_uniq (strP_of (disP_perm hperm.symm hdis) hsrt) (sortP_str hdis) (hperm.trans (List.mergeSort_perm a0 leP).symm)
    refine ⟨rfl, ?_⟩
    have hl2 : (a0.mergeSort leP).length = a0.length := List.length_mergeSort a0
    rw [heq] at s3
    have s4 := s3.weaken 0 rfl (row nilH 70 (.slice (some ⟨g, 0, none⟩) a0.length cap) (a0.mergeSort leP)) (fun h hr => .inr ⟨g, cap, _, sp, by rw [hl2], hr.1, by rw [hl2]; exact h3, h4, ?_, ?_⟩)
    · exact s4
    · have e1 := flatMap_len Prt.cs 3 (fun _ => rfl) (a0.mergeSort leP)
      have e2 := flatMap_len Prt.cs 3 (fun _ => rfl) a0
      rw [hz2, List.length_append, e2, ← hl2, ← e1, ← List.length_append] at h5
      exact h5
    · exact rfP.2 rfl
end Go.Proofs.Ythdbofgcckjopaa
