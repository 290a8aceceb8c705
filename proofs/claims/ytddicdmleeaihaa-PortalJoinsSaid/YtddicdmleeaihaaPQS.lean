/-
  slices.SortFunc of portals, and their order. The conditions stand in each lemma.
-/
import Derived.Test.YtddicdmleeaihaaPQO
import Derived.Test.YtddicdmleeaihaaVZ

import Derived.Lib.Walk
import Derived.StillTailTactics
set_option linter.unusedVariables false
set_option linter.unusedSimpArgs false
set_option maxRecDepth 100000
namespace Go.Proofs.Ytddicdmleeaihaa
open Go.Shelf Go.RowKit Go.Lib Go.Sort
open Go.Vg
open Enc (R)
def sortLay_ren : Go.Shelf.Ren := ⟨fun | 6 => 32 | 15 => 41 | 14 => 40 | 28 => 55 | 29 => 56 | 20 => 47 | 21 => 48 | 22 => 49 | 23 => 50 | 24 => 51 | 25 => 52 | 26 => 53 | 27 => 54 | 46 => 57 | 47 => 58 | 48 => 59 | 49 => 60 | 50 => 61 | 57 => 62 | n => n, fun | 22 => 27 | 24 => 40 | 25 => 59 | 3 => 3 | 39 => 60 | 0 => 0 | 53 => 71 | 55 => 74 | 4 => 4 | 46 => 83 | 45 => 82 | 50 => 44 | 5 => 5 | 9 => 9 | 66 => 90 | 70 => 94 | 76 => 96 | 77 => 97 | n => n, fun | n => n⟩
theorem sortLay : Go.Proofs.SlLaysF0.n6 Try.prog sortLay_ren where
  mixed := by kernel_rfl
  f6 := ⟨Try.f32.name, by decide, Try.func32.trans (congrArg some (by kernel_rfl))⟩
  f14 := ⟨Try.f40.name, by decide, Try.func40.trans (congrArg some (by kernel_rfl))⟩
  f15 := Try.func41.trans (congrArg some (by kernel_rfl))
  f20 := ⟨Try.f47.name, by decide, Try.func47.trans (congrArg some (by kernel_rfl))⟩
  f21 := ⟨Try.f48.name, by decide, Try.func48.trans (congrArg some (by kernel_rfl))⟩
  f22 := ⟨Try.f49.name, by decide, Try.func49.trans (congrArg some (by kernel_rfl))⟩
  f23 := ⟨Try.f50.name, by decide, Try.func50.trans (congrArg some (by kernel_rfl))⟩
  f24 := ⟨Try.f51.name, by decide, Try.func51.trans (congrArg some (by kernel_rfl))⟩
  f25 := ⟨Try.f52.name, by decide, Try.func52.trans (congrArg some (by kernel_rfl))⟩
  f26 := ⟨Try.f53.name, by decide, Try.func53.trans (congrArg some (by kernel_rfl))⟩
  f27 := ⟨Try.f54.name, by decide, Try.func54.trans (congrArg some (by kernel_rfl))⟩
  f28 := Try.func55.trans (congrArg some (by kernel_rfl))
  f29 := Try.func56.trans (congrArg some (by kernel_rfl))
  f46 := ⟨Try.f57.name, by decide, Try.func57.trans (congrArg some (by kernel_rfl))⟩
  f47 := Try.func58.trans (congrArg some (by kernel_rfl))
  f48 := Try.func59.trans (congrArg some (by kernel_rfl))
  f49 := ⟨Try.f60.name, by decide, Try.func60.trans (congrArg some (by kernel_rfl))⟩
  f50 := ⟨Try.f61.name, by decide, Try.func61.trans (congrArg some (by kernel_rfl))⟩
  f57 := ⟨Try.f62.name, by decide, Try.func62.trans (congrArg some (by kernel_rfl))⟩
  t0 := Try.underlying0
  a0 := Try.isAgg0
  z0 := Try.sizeOf0
  v0 := Try.zeroValue0
  t3 := Try.underlying3
  a3 := Try.isAgg3
  z3 := Try.sizeOf3
  v3 := Try.zeroValue3
  t4 := Try.underlying4
  a4 := Try.isAgg4
  z4 := Try.sizeOf4
  v4 := Try.zeroValue4
  t5 := Try.underlying5
  a5 := Try.isAgg5
  z5 := Try.sizeOf5
  v5 := Try.zeroValue5
  t9 := Try.underlying9
  a9 := Try.isAgg9
  z9 := Try.sizeOf9
  v9 := Try.zeroValue9
  t22 := Try.underlying27
  a22 := Try.isAgg27
  z22 := Try.sizeOf27
  v22 := Try.zeroValue27
  t25 := Try.underlying59
  a25 := Try.isAgg59
  z25 := Try.sizeOf59
  v25 := Try.zeroValue59
  t39 := Try.underlying60
  a39 := Try.isAgg60
  z39 := Try.sizeOf60
  v39 := Try.zeroValue60
  t45 := Try.underlying82
  a45 := Try.isAgg82
  z45 := Try.sizeOf82
  v45 := Try.zeroValue82
  t46 := Try.underlying83
  a46 := Try.isAgg83
  z46 := Try.sizeOf83
  v46 := Try.zeroValue83
  t50 := Try.underlying44
  a50 := Try.isAgg44
  z50 := Try.sizeOf44
  v50 := Try.zeroValue44
  t53 := Try.underlying71
  a53 := Try.isAgg71
  z53 := Try.sizeOf71
  v53 := Try.zeroValue71
  t55 := Try.underlying74
  a55 := Try.isAgg74
  z55 := Try.sizeOf74
  v55 := Try.zeroValue74
  t66 := Try.underlying90
  a66 := Try.isAgg90
  z66 := Try.sizeOf90
  v66 := Try.zeroValue90
  t70 := Try.underlying94
  a70 := Try.isAgg94
  z70 := Try.sizeOf94
  v70 := Try.zeroValue94
  t76 := Try.underlying96
  a76 := Try.isAgg96
  z76 := Try.sizeOf96
  v76 := Try.zeroValue96
  t77 := Try.underlying97
  a77 := Try.isAgg97
  z77 := Try.sizeOf97
  v77 := Try.zeroValue97
theorem tI_agg (w : World) : (isAgg 40).run Try.prog w = .ok true w := by kernel_rfl
theorem tI_size (w : World) : (Go.sizeOf 40).run Try.prog w = .ok 3 w := by kernel_rfl

/-! ### The order -/
def ordI (a b c d : Int) : Int := if a < c then -1 else if c < a then 1 else if b < d then -1 else if d < b then 1 else 0
set_option maxHeartbeats 2000000 in
theorem isNaN_x (x : Int) (w : World) : Calls Try.prog 42 #[.int .i64 x] w fun e w' => e = .returned (.bool false) ∧ w' = w := by
  go_enter Try.func42, Try.ntmps42
  go_wp2
  go_ret
  exact ⟨by simp, rfl⟩
set_option maxHeartbeats 2000000 in
theorem compare_x (x y : Int) (w : World) : Calls Try.prog 35 #[.int .i64 x, .int .i64 y] w fun e w' => e = .returned (.int .i64 (Lib.compareInt x y)) ∧ w' = w := by
  go_enter Try.func35, Try.ntmps35
  go_wp2_with (go_at_call 42; refine (isNaN_x _ _).mono ?_; rintro e w' ⟨rfl, hw⟩; rw [hw])
  all_goals (go_ret; refine ⟨?_, rfl⟩; unfold Lib.compareInt; (repeat' split) <;> first | rfl | (exfalso; omega))
set_option maxHeartbeats 2000000 in
theorem or_x1 (x y : Int) (hx : ¬ x = 0) (b cap : Nat) (w : World) (h0 : w.cell? ⟨b, 0, none⟩ = some (.int .i64 x)) (h1 : w.cell? ⟨b, 1, none⟩ = some (.int .i64 y)) : Calls Try.prog 34 #[.slice (some ⟨b, 0, none⟩) 2 cap] w fun e w' => e = .returned (.int .i64 x) ∧ w' = w := by
  have hb : (x != 0) = true := by simp [hx]
  go_enter Try.func34, Try.ntmps34
  go_wp2
  refine wp_loop_rounds 3 ?_
  rw [rounds_succ]
  go_wp2
  all_goals (first | (exfalso; simp_all; done) | (go_ret; exact ⟨rfl, rfl⟩))
set_option maxHeartbeats 2000000 in
theorem or_x2 (y : Int) (hy : ¬ y = 0) (b cap : Nat) (w : World) (h0 : w.cell? ⟨b, 0, none⟩ = some (.int .i64 0)) (h1 : w.cell? ⟨b, 1, none⟩ = some (.int .i64 y)) : Calls Try.prog 34 #[.slice (some ⟨b, 0, none⟩) 2 cap] w fun e w' => e = .returned (.int .i64 y) ∧ w' = w := by
  have hb : (y != 0) = true := by simp [hy]
  go_enter Try.func34, Try.ntmps34
  go_wp2
  refine wp_loop_rounds 3 ?_
  rw [rounds_succ]
  go_wp2
  rw [rounds_succ]
  go_wp2
  all_goals (first | (exfalso; simp_all; done) | (go_ret; exact ⟨rfl, rfl⟩))
set_option maxHeartbeats 2000000 in
theorem or_x3 (b cap : Nat) (w : World) (h0 : w.cell? ⟨b, 0, none⟩ = some (.int .i64 0)) (h1 : w.cell? ⟨b, 1, none⟩ = some (.int .i64 0)) : Calls Try.prog 34 #[.slice (some ⟨b, 0, none⟩) 2 cap] w fun e w' => e = .returned (.int .i64 0) ∧ w' = w := by
  go_enter Try.func34, Try.ntmps34
  go_wp2
  refine wp_loop_rounds 3 ?_
  rw [rounds_succ]
  go_wp2
  rw [rounds_succ]
  go_wp2
  rw [rounds_succ]
  go_wp2
  all_goals (first | (exfalso; simp_all; done) | (go_ret; exact ⟨rfl, rfl⟩))
theorem or_x (x y : Int) (b cap : Nat) (w : World) (h0 : w.cell? ⟨b, 0, none⟩ = some (.int .i64 x)) (h1 : w.cell? ⟨b, 1, none⟩ = some (.int .i64 y)) : Calls Try.prog 34 #[.slice (some ⟨b, 0, none⟩) 2 cap] w fun e w' => e = .returned (.int .i64 (if x = 0 then y else x)) ∧ w' = w := by
  by_cases hx : x = 0
  · subst hx
    rw [if_pos rfl]
    by_cases hy : y = 0
    · subst hy; exact or_x3 b cap w h0 h1
    · exact or_x2 y hy b cap w h0 h1
  · rw [if_neg hx]; exact or_x1 x y hx b cap w h0 h1
def orI (x y : Int) : Int := if x = 0 then y else x
theorem alloc2 (W : World) (o1 o2 : Obj) : ((W.alloc o1).alloc o2).heap.size = W.heap.size + 1 + 1 := by
  show ((W.heap.push o1).push o2).size = _
  rw [Array.size_push, Array.size_push]
theorem or_y (x y : Int) (W : World) (n : Nat) (hn : W.heap.size = n) : Calls Try.prog 34 #[.slice (some ⟨n, 0, none⟩) 2 2] (W.alloc (Obj.cells #[.int .i64 x, .int .i64 y] 3)) fun e w' => e = .returned (.int .i64 (orI x y)) ∧ w' = W.alloc (Obj.cells #[.int .i64 x, .int .i64 y] 3) := by
  subst hn
  have hg : ∀ k : Nat, (W.alloc (Obj.cells #[.int .i64 x, .int .i64 y] 3)).cell? ⟨W.heap.size, k, none⟩ = #[(Value.int .i64 x), .int .i64 y][k]? := fun k => by
    have : (W.alloc (Obj.cells #[.int .i64 x, .int .i64 y] 3)).heap[W.heap.size]? = some (Obj.cells #[.int .i64 x, .int .i64 y] 3) := by
      show (W.heap.push _)[W.heap.size]? = _
      simp
    simp only [World.cell?, this]
    rfl
  exact or_x x y _ _ _ (hg 0) (hg 1)
theorem still_tail_at {P : Program} {id : Nat} {Q : Exit → Act → World → Prop} {a : Act} {w : World} {l : List Oper} (n : Nat) (hm : P.follows .mixedOrders = true) (hB : Region.lexTailB .any l.toArray n = true)
    (h : ∀ w2 : World, w2 = w.drew → wpStill P l.toArray w2 (fun a' => wpList P l.toArray Q (l.drop n) a' w2) (l.take n) a) : (Code.region id l.toArray true).wp P Q a w := wp_region_still_tail n hm hB (h _ rfl)
theorem two_cells (W : World) (o1 o2 : Obj) (c1 c2 : Array Value) (e1 e2 : TypeId) (h1 : o1 = .cells c1 e1) (h2 : o2 = .cells c2 e2) (W3 : World) (hW : W3 = ((W.alloc o1).alloc o2).drew) :
    (∀ k, W3.cell? ⟨W.heap.size, k, none⟩ = c1[k]?) ∧ (∀ k, W3.cell? ⟨W.heap.size + 1, k, none⟩ = c2[k]?) ∧ W3.heap.size = W.heap.size + 1 + 1 ∧ W3 = grow (W.drewN 1) #[o1, o2] := by
  subst h1; subst h2
  have hh : W3.heap = (W.heap.push (.cells c1 e1)).push (.cells c2 e2) := by rw [hW]; rfl
  have i1 : W3.heap[W.heap.size]? = some (.cells c1 e1) := by rw [hh, Array.getElem?_push, if_neg (by rw [Array.size_push]; omega), Array.getElem?_push, if_pos rfl]
  have i2 : W3.heap[W.heap.size + 1]? = some (.cells c2 e2) := by rw [hh, Array.getElem?_push, if_pos (by rw [Array.size_push])]
  refine ⟨fun k => ?_, fun k => ?_, by rw [hh, Array.size_push, Array.size_push], ?_⟩
  · simp only [World.cell?, i1]; rfl
  · simp only [World.cell?, i2]; rfl
  · subst hW
    rw [alloc_eq_grow, alloc_eq_grow, grow_grow]
    rfl
set_option maxHeartbeats 2000000 in
theorem less_x (a b c d u v : Int) (W : World) : Calls Try.prog 33 #[.agg #[.int .i64 a, .int .i64 b, .int .i64 u], .agg #[.int .i64 c, .int .i64 d, .int .i64 v]] W fun e w' => e = .returned (.int .i64 (orI (Lib.compareInt a c) (Lib.compareInt b d))) ∧ ∃ q os', w' = grow (W.drewN q) os' := by
  have hor := fun x y W' n hn => or_y x y W' n hn
  go_enter Try.func33, Try.ntmps33
  go_wp2
  refine still_tail_at 10 (by kernel_rfl) (by kernel_rfl) fun W3 hW3 => ?_
  obtain ⟨f1, f2, fs, fg⟩ := two_cells W _ _ _ _ _ _ rfl rfl W3 hW3
  clear hW3
  have a0 : W3.cell? ⟨W.heap.size, 0, none⟩ = some (.int .i64 a) := f1 0
  have a1 : W3.cell? ⟨W.heap.size, 1, none⟩ = some (.int .i64 b) := f1 1
  have b0 : W3.cell? ⟨W.heap.size + 1, 0, none⟩ = some (.int .i64 c) := f2 0
  have b1 : W3.cell? ⟨W.heap.size + 1, 1, none⟩ = some (.int .i64 d) := f2 1
  clear f1 f2
  have HD : Hid (W3 = _) := fg
  clear fg fs
  simp only [List.take_succ_cons, List.take_zero, List.drop_succ_cons, List.drop_zero]
  still_step
  still_step
  still_step
  still_step
  still_call (compare_x _ _ _)
  still_step
  still_step
  still_step
  still_step
  still_call (compare_x _ _ _)
  refine wpStill_nil ?_
  generalize h1 : Lib.compareInt a c = r1
  generalize h2 : Lib.compareInt b d = r2
  have hc := hor r1 r2 W3 W3.heap.size rfl
  clear hor
  generalize h3 : orI r1 r2 = r3 at hc
  go_wp2_with fail
  refine hc.mono ?_
  rintro e w' ⟨rfl, rfl⟩
  go_wp2_with fail
  go_ret
  constructor
  · rw [h1, h2, h3]; rfl
  · exact ⟨1, #[_, _] ++ #[_], by rw [HD.out, alloc_eq_grow, grow_grow]⟩

/-! ### Sorting portals -/
def PrLt (x y : Prt) : Prop := x.a < y.a ∨ (x.a = y.a ∧ x.b < y.b)
instance (x y : Prt) : Decidable (PrLt x y) := by unfold PrLt; exact inferInstance
def Prt.cs (x : Prt) : List Value := [.int .i64 x.a, .int .i64 x.b, .int .i64 x.width]
def cfP (x y : Prt) : Int := orI (Lib.compareInt x.a y.a) (Lib.compareInt x.b y.b)
theorem orI_lt (a b c d : Int) : orI (Lib.compareInt a c) (Lib.compareInt b d) < 0 ↔ (a < c ∨ (a = c ∧ b < d)) := by
  unfold orI Lib.compareInt
  by_cases h1 : a < c
  · simp [h1]
  · by_cases h2 : c < a
    · simp [h1, h2]; omega
    · have h3 : a = c := by omega
      subst h3
      by_cases h4 : b < d
      · simp [h4]
      · by_cases h5 : d < b <;> simp [h4, h5]
theorem cfP_lt (x y : Prt) : ltOf cfP x y = decide (PrLt x y) := decide_eq_decide.2 (orI_lt _ _ _ _)
theorem cfP_swo : SWO (ltOf cfP) where
  irrefl x := by rw [cfP_lt]; simp [PrLt]
  trans x y z h1 h2 := by rw [cfP_lt, decide_eq_true_eq] at h1 h2 ⊢; unfold PrLt at *; omega
  ntrans x y z h1 h2 := by rw [cfP_lt, decide_eq_false_iff_not] at h1 h2 ⊢; unfold PrLt at *; omega
def leP (a b : Prt) : Bool := !decide (PrLt b a)
/-- Sorted, and no two of one place. -/
def StrP (l : List Prt) : Prop := l.Pairwise PrLt
/-- No two of one place. -/
def DisP (l : List Prt) : Prop := l.Pairwise fun x y => ¬ (x.a = y.a ∧ x.b = y.b)
instance (l : List Prt) : Decidable (DisP l) := by unfold DisP; exact inferInstance
theorem strP_uniq : ∀ {l m : List Prt}, StrP l → StrP m → l.Perm m → l = m := fun {l m} h1 h2 hp =>
  List.Perm.eq_of_pairwise (le := PrLt) (fun a b _ _ h k => by unfold PrLt at h k; omega) h1 h2 hp
theorem strP_of {l : List Prt} (h : DisP l) (hs : l.Pairwise fun a b => ¬ PrLt b a) : StrP l :=
  (List.Pairwise.and h hs).imp fun {a b} ⟨h1, h2⟩ => by unfold PrLt at *; omega
theorem disP_perm {l m : List Prt} (hp : l.Perm m) (h : DisP l) : DisP m := hp.pairwise h (fun {a b} k q => k ⟨q.1.symm, q.2.symm⟩)
theorem sortP_str {l : List Prt} (h : DisP l) : StrP (l.mergeSort leP) := by
  refine strP_of (disP_perm (List.mergeSort_perm l leP).symm h) ?_
  have := List.pairwise_mergeSort (le := leP) (fun a b c h1 h2 => by simp only [leP, Bool.not_eq_true', decide_eq_false_iff_not] at *; unfold PrLt at *; omega) (fun a b => by simp only [leP, Bool.or_eq_true, Bool.not_eq_true', decide_eq_false_iff_not]; unfold PrLt; omega) l
  exact this.imp fun {a b} h1 => by simpa [leP] using h1
def slices_SortFuncP (a : List Prt) : Option (List Prt) := if a.length ≤ 1000000 ∧ DisP a then some (a.mergeSort leP) else none
theorem rfP {H : Hp} : ∀ {xs : List Prt} {cs : List Value}, RF H xs cs ↔ cs = xs.flatMap Prt.cs
  | [], cs => ⟨fun e => e, fun e => e⟩
  | x :: xs, cs => by
    constructor
    · rintro ⟨c, r, e, hx, hr⟩
      have hx : c = x.cs := hx
      rw [e, hx, rfP.1 hr]; rfl
    · intro e
      exact ⟨x.cs, xs.flatMap Prt.cs, by rw [e]; rfl, rfl, rfP.2 rfl⟩
theorem slices_SortFuncP_walk {w0 : World} {F : Ch} (a0 : List Prt) {q0 : Option Nat × Nat} {m0 : Nat} (hm : m0 = a0.length) {r : List Prt} (H : slices_SortFuncP a0 = some r) (w : World) (s : Sat w0 [row nilH 40 (rowV q0 m0) a0, F] w) :
    Calls Try.prog 32 #[rowV q0 m0, .func (.func 33) #[] #[]] w fun e w' => e = .returned (.tuple #[]) ∧ Sat w0 [row nilH 40 (rowV q0 m0) r, F] w' := by
  subst hm
  unfold slices_SortFuncP at H
  obtain ⟨⟨hlt, hdis⟩, H⟩ := gdE H
  obtain rfl := Option.some.inj H
  obtain ⟨p, hp, s1⟩ := s.freeze 0 rfl
  rcases hp with ⟨hv, hnil⟩ | ⟨g, cap, cs, sp, hv, hg, h3, h4, h5, h6⟩
  · subst hnil
    have hc := AnyF.slices_SortFunc_none sortLay none 0 (.func (.func 33) #[] #[]) w
    rw [hv]
    rw [hv] at s
    refine Calls.mono (show Calls Try.prog 32 #[.slice none 0 0, .func (.func 33) #[] #[]] w _ from hc) ?_
    rintro e w' ⟨rfl, rfl⟩
    exact ⟨rfl, by simpa using s⟩
  · have hz2 := rfP.1 (show RF _ a0 cs from h6)
    have s2 := s1.weaken 0 rfl (fun h => h g = some (.cells (a0.flatMap Prt.cs ++ sp).toArray 40 (0, 0)) ∧ h.off g = p.off g) (fun r hr => by rw [show r = p from hr]; exact ⟨by rw [← hz2]; exact hg, rfl⟩)
    have eg : ∀ args w, (callFunc 33 args).run Try.prog w = .ok (.enter 33 args) w := enters_of Try.func33 (by kernel_rfl) rfl
    have hc := sort_core sortLay 3 (by decide) tI_agg tI_size Prt.cs (fun _ => rfl) (fun x u hu => by
      simp only [Prt.cs, List.mem_cons, List.not_mem_nil, or_false] at hu
      rcases hu with rfl | rfl | rfl <;> rfl) cfP cfP_swo 33 eg (fun x y W => less_x _ _ _ _ _ _ W) g cap a0 sp 40 (fun h => h = p.off g) (by omega) s2
    obtain ⟨hperm, hlen, hsort⟩ := sortF_spec cfP_swo a0
    rw [hv]
    refine Calls.mono (show Calls Try.prog 32 #[.slice (some ⟨g, 0, none⟩) a0.length cap, .func (.func 33) #[] #[]] w _ from hc) ?_
    rintro e w' ⟨rfl, s3⟩
    have hsrt : (sortF (ltOf cfP) a0).Pairwise fun a b => ¬ PrLt b a := by
      rw [List.pairwise_iff_getElem]
      intro i j hi hj hij
      have := hsort i j hij (by rw [← hlen]; exact hj)
      rw [cfP_lt, decide_eq_false_iff_not, getElem!_pos _ i hi, getElem!_pos _ j hj] at this
      exact this
    have heq : sortF (ltOf cfP) a0 = a0.mergeSort leP := strP_uniq (strP_of (disP_perm hperm.symm hdis) hsrt) (sortP_str hdis) (hperm.trans (List.mergeSort_perm a0 leP).symm)
    refine ⟨rfl, ?_⟩
    have hl2 : (a0.mergeSort leP).length = a0.length := List.length_mergeSort a0
    rw [heq] at s3
    have s4 := s3.weaken 0 rfl (row nilH 40 (.slice (some ⟨g, 0, none⟩) a0.length cap) (a0.mergeSort leP)) (fun h hr => .inr ⟨g, cap, _, sp, by rw [hl2], hr.1, by rw [hl2]; exact h3, h4, ?_, ?_⟩)
    · exact s4
    · have e1 := flatMap_len Prt.cs 3 (fun _ => rfl) (a0.mergeSort leP)
      have e2 := flatMap_len Prt.cs 3 (fun _ => rfl) a0
      rw [hz2, List.length_append, e2, ← hl2, ← e1, ← List.length_append] at h5
      exact h5
    · exact rfP.2 rfl
end Go.Proofs.Ytddicdmleeaihaa
