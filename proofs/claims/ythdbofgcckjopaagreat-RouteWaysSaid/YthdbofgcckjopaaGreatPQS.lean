/-
  slices.SortFunc of portals, and their order. The conditions stand in each lemma.
-/
import Derived.Test.YthdbofgcckjopaaGreatPQO
import Derived.Test.YthdbofgcckjopaaGreatW3
import Derived.Lib.Walk
import Derived.StillTailTactics

set_option linter.unusedVariables false
set_option linter.unusedSimpArgs false
set_option maxRecDepth 100000
namespace Go.Proofs.YthdbofgcckjopaaGreat
open Go.Shelf Go.RowKit Go.Lib Go.Sort
open Go.Vg
open Enc (R)
def sortLay_ren : Go.Shelf.Ren := ⟨fun | 6 => 98 | 15 => 130 | 14 => 129 | 28 => 163 | 29 => 164 | 20 => 155 | 21 => 156 | 22 => 157 | 23 => 158 | 24 => 159 | 25 => 160 | 26 => 161 | 27 => 162 | 46 => 180 | 47 => 181 | 48 => 182 | 49 => 183 | 50 => 184 | 57 => 195 | n => n, fun | 22 => 62 | 24 => 67 | 25 => 168 | 3 => 3 | 39 => 80 | 0 => 0 | 53 => 132 | 55 => 227 | 4 => 4 | 46 => 220 | 45 => 219 | 50 => 127 | 5 => 5 | 9 => 9 | 66 => 239 | 70 => 243 | 76 => 253 | 77 => 207 | n => n, fun | n => n⟩
theorem sortLay : Go.Proofs.SlLaysF0.n6 Tryz.prog sortLay_ren where
  mixed := by kernel_rfl
  f6 := ⟨Tryz.f98.name, by decide, Tryz.func98.trans (congrArg some (by kernel_rfl))⟩
  f14 := ⟨Tryz.f129.name, by decide, Tryz.func129.trans (congrArg some (by kernel_rfl))⟩
  f15 := Tryz.func130.trans (congrArg some (by kernel_rfl))
  f20 := ⟨Tryz.f155.name, by decide, Tryz.func155.trans (congrArg some (by kernel_rfl))⟩
  f21 := ⟨Tryz.f156.name, by decide, Tryz.func156.trans (congrArg some (by kernel_rfl))⟩
  f22 := ⟨Tryz.f157.name, by decide, Tryz.func157.trans (congrArg some (by kernel_rfl))⟩
  f23 := ⟨Tryz.f158.name, by decide, Tryz.func158.trans (congrArg some (by kernel_rfl))⟩
  f24 := ⟨Tryz.f159.name, by decide, Tryz.func159.trans (congrArg some (by kernel_rfl))⟩
  f25 := ⟨Tryz.f160.name, by decide, Tryz.func160.trans (congrArg some (by kernel_rfl))⟩
  f26 := ⟨Tryz.f161.name, by decide, Tryz.func161.trans (congrArg some (by kernel_rfl))⟩
  f27 := ⟨Tryz.f162.name, by decide, Tryz.func162.trans (congrArg some (by kernel_rfl))⟩
  f28 := Tryz.func163.trans (congrArg some (by kernel_rfl))
  f29 := Tryz.func164.trans (congrArg some (by kernel_rfl))
  f46 := ⟨Tryz.f180.name, by decide, Tryz.func180.trans (congrArg some (by kernel_rfl))⟩
  f47 := Tryz.func181.trans (congrArg some (by kernel_rfl))
  f48 := Tryz.func182.trans (congrArg some (by kernel_rfl))
  f49 := ⟨Tryz.f183.name, by decide, Tryz.func183.trans (congrArg some (by kernel_rfl))⟩
  f50 := ⟨Tryz.f184.name, by decide, Tryz.func184.trans (congrArg some (by kernel_rfl))⟩
  f57 := ⟨Tryz.f195.name, by decide, Tryz.func195.trans (congrArg some (by kernel_rfl))⟩
  t0 := Tryz.underlying0
  a0 := Tryz.isAgg0
  z0 := Tryz.sizeOf0
  v0 := Tryz.zeroValue0
  t3 := Tryz.underlying3
  a3 := Tryz.isAgg3
  z3 := Tryz.sizeOf3
  v3 := Tryz.zeroValue3
  t4 := Tryz.underlying4
  a4 := Tryz.isAgg4
  z4 := Tryz.sizeOf4
  v4 := Tryz.zeroValue4
  t5 := Tryz.underlying5
  a5 := Tryz.isAgg5
  z5 := Tryz.sizeOf5
  v5 := Tryz.zeroValue5
  t9 := Tryz.underlying9
  a9 := Tryz.isAgg9
  z9 := Tryz.sizeOf9
  v9 := Tryz.zeroValue9
  t22 := Tryz.underlying62
  a22 := Tryz.isAgg62
  z22 := Tryz.sizeOf62
  v22 := Tryz.zeroValue62
  t25 := Tryz.underlying168
  a25 := Tryz.isAgg168
  z25 := Tryz.sizeOf168
  v25 := Tryz.zeroValue168
  t39 := Tryz.underlying80
  a39 := Tryz.isAgg80
  z39 := Tryz.sizeOf80
  v39 := Tryz.zeroValue80
  t45 := Tryz.underlying219
  a45 := Tryz.isAgg219
  z45 := Tryz.sizeOf219
  v45 := Tryz.zeroValue219
  t46 := Tryz.underlying220
  a46 := Tryz.isAgg220
  z46 := Tryz.sizeOf220
  v46 := Tryz.zeroValue220
  t50 := Tryz.underlying127
  a50 := Tryz.isAgg127
  z50 := Tryz.sizeOf127
  v50 := Tryz.zeroValue127
  t53 := Tryz.underlying132
  a53 := Tryz.isAgg132
  z53 := Tryz.sizeOf132
  v53 := Tryz.zeroValue132
  t55 := Tryz.underlying227
  a55 := Tryz.isAgg227
  z55 := Tryz.sizeOf227
  v55 := Tryz.zeroValue227
  t66 := Tryz.underlying239
  a66 := Tryz.isAgg239
  z66 := Tryz.sizeOf239
  v66 := Tryz.zeroValue239
  t70 := Tryz.underlying243
  a70 := Tryz.isAgg243
  z70 := Tryz.sizeOf243
  v70 := Tryz.zeroValue243
  t76 := Tryz.underlying253
  a76 := Tryz.isAgg253
  z76 := Tryz.sizeOf253
  v76 := Tryz.zeroValue253
  t77 := Tryz.underlying207
  a77 := Tryz.isAgg207
  z77 := Tryz.sizeOf207
  v77 := Tryz.zeroValue207
theorem tI_agg (w : World) : (isAgg 67).run Tryz.prog w = .ok true w := by kernel_rfl
theorem tI_size (w : World) : (Go.sizeOf 67).run Tryz.prog w = .ok 3 w := by kernel_rfl

/-! ### The order -/
set_option maxHeartbeats 2000000 in
theorem isNaN_x (x : Int) (w : World) : Calls Tryz.prog 131 #[.int .i64 x] w fun e w' => e = .returned (.bool false) ∧ w' = w := by
  go_enter Tryz.func131, Tryz.ntmps131
  go_wp2
  go_ret
  exact ⟨by simp, rfl⟩
set_option maxHeartbeats 2000000 in
theorem compare_x (x y : Int) (w : World) : Calls Tryz.prog 101 #[.int .i64 x, .int .i64 y] w fun e w' => e = .returned (.int .i64 (Lib.compareInt x y)) ∧ w' = w := by
  go_enter Tryz.func101, Tryz.ntmps101
  go_wp2_with (go_at_call 131; refine (isNaN_x _ _).mono ?_; rintro e w' ⟨rfl, hw⟩; rw [hw])
  all_goals (go_ret; refine ⟨?_, rfl⟩; unfold Lib.compareInt; (repeat' split) <;> first | rfl | (exfalso; omega))
set_option maxHeartbeats 2000000 in
theorem or_x1 (x y : Int) (hx : ¬ x = 0) (b cap : Nat) (w : World) (h0 : w.cell? ⟨b, 0, none⟩ = some (.int .i64 x)) (h1 : w.cell? ⟨b, 1, none⟩ = some (.int .i64 y)) : Calls Tryz.prog 100 #[.slice (some ⟨b, 0, none⟩) 2 cap] w fun e w' => e = .returned (.int .i64 x) ∧ w' = w := by
  have hb : (x != 0) = true := by simp [hx]
  go_enter Tryz.func100, Tryz.ntmps100
  go_wp2
  refine wp_loop_rounds 3 ?_
  rw [rounds_succ]
  go_wp2
  all_goals (first | (exfalso; simp_all; done) | (go_ret; exact ⟨rfl, rfl⟩))
set_option maxHeartbeats 2000000 in
theorem or_x2 (y : Int) (hy : ¬ y = 0) (b cap : Nat) (w : World) (h0 : w.cell? ⟨b, 0, none⟩ = some (.int .i64 0)) (h1 : w.cell? ⟨b, 1, none⟩ = some (.int .i64 y)) : Calls Tryz.prog 100 #[.slice (some ⟨b, 0, none⟩) 2 cap] w fun e w' => e = .returned (.int .i64 y) ∧ w' = w := by
  have hb : (y != 0) = true := by simp [hy]
  go_enter Tryz.func100, Tryz.ntmps100
  go_wp2
  refine wp_loop_rounds 3 ?_
  rw [rounds_succ]
  go_wp2
  rw [rounds_succ]
  go_wp2
  all_goals (first | (exfalso; simp_all; done) | (go_ret; exact ⟨rfl, rfl⟩))
set_option maxHeartbeats 2000000 in
theorem or_x3 (b cap : Nat) (w : World) (h0 : w.cell? ⟨b, 0, none⟩ = some (.int .i64 0)) (h1 : w.cell? ⟨b, 1, none⟩ = some (.int .i64 0)) : Calls Tryz.prog 100 #[.slice (some ⟨b, 0, none⟩) 2 cap] w fun e w' => e = .returned (.int .i64 0) ∧ w' = w := by
  go_enter Tryz.func100, Tryz.ntmps100
  go_wp2
  refine wp_loop_rounds 3 ?_
  rw [rounds_succ]
  go_wp2
  rw [rounds_succ]
  go_wp2
  rw [rounds_succ]
  go_wp2
  all_goals (first | (exfalso; simp_all; done) | (go_ret; exact ⟨rfl, rfl⟩))
theorem or_x (x y : Int) (b cap : Nat) (w : World) (h0 : w.cell? ⟨b, 0, none⟩ = some (.int .i64 x)) (h1 : w.cell? ⟨b, 1, none⟩ = some (.int .i64 y)) : Calls Tryz.prog 100 #[.slice (some ⟨b, 0, none⟩) 2 cap] w fun e w' => e = .returned (.int .i64 (if x = 0 then y else x)) ∧ w' = w := by
  by_cases hx : x = 0
  · subst hx
    rw [if_pos rfl]
    by_cases hy : y = 0
    · subst hy; exact or_x3 b cap w h0 h1
    · exact or_x2 y hy b cap w h0 h1
  · rw [if_neg hx]; exact or_x1 x y hx b cap w h0 h1
def orI (x y : Int) : Int := if x = 0 then y else x
theorem or_y (x y : Int) (W : World) (n : Nat) (hn : W.heap.size = n) : Calls Tryz.prog 100 #[.slice (some ⟨n, 0, none⟩) 2 2] (W.alloc (Obj.cells #[.int .i64 x, .int .i64 y] 3)) fun e w' => e = .returned (.int .i64 (orI x y)) ∧ w' = W.alloc (Obj.cells #[.int .i64 x, .int .i64 y] 3) := by
  subst hn
  have hg : ∀ k : Nat, (W.alloc (Obj.cells #[.int .i64 x, .int .i64 y] 3)).cell? ⟨W.heap.size, k, none⟩ = #[(Value.int .i64 x), .int .i64 y][k]? := fun k => by
    have : (W.alloc (Obj.cells #[.int .i64 x, .int .i64 y] 3)).heap[W.heap.size]? = some (Obj.cells #[.int .i64 x, .int .i64 y] 3) := by
      show (W.heap.push _)[W.heap.size]? = _
      simp
    simp only [World.cell?, this]
    rfl
  exact or_x x y _ _ _ (hg 0) (hg 1)
theorem still_tail_at {P : Program} {id : Nat} {Q : Exit → Act → World → Prop} {a : Act} {w : World} {l : List Oper} (n : Nat) (hm : P.follows .mixedOrders = true) (hB : Region.lexTailB .any l.toArray n = true)
    (h : ∀ w2 : World, w2 = w.drew → wpStill P l.toArray w2 (fun a' => wpList P l.toArray Q (l.drop n) a' w2) (l.take n) a) : (Code.region id l.toArray true).wp P Q a w := wp_region_still_tail n hm hB (h _ rfl)
theorem two_cells (W : World) (o1 o2 : Obj) (c1 c2 : Array Value) (e1 e2 : TypeId) (h1 : o1 = .cells c1 e1) (h2 : o2 = .cells c2 e2) (W3 : World) (hW : W3 = ((W.alloc o1).alloc o2).drew) :
    (∀ k, W3.cell? ⟨W.heap.size, k, none⟩ = c1[k]?) ∧ (∀ k, W3.cell? ⟨W.heap.size + 1, k, none⟩ = c2[k]?) ∧ W3.heap.size = W.heap.size + 1 + 1 ∧ W3 = grow (W.drewN 1) #[o1, o2] := by
  subst h1; subst h2
  have hh : W3.heap = (W.heap.push (.cells c1 e1)).push (.cells c2 e2) := by rw [hW]; rfl
  have i1 : W3.heap[W.heap.size]? = some (.cells c1 e1) := by rw [hh, Array.getElem?_push, if_neg (by rw [Array.size_push]; omega), Array.getElem?_push, if_pos rfl]
  have i2 : W3.heap[W.heap.size + 1]? = some (.cells c2 e2) := by rw [hh, Array.getElem?_push, if_pos (by rw [Array.size_push])]
  refine ⟨fun k => ?_, fun k => ?_, by rw [hh, Array.size_push, Array.size_push], ?_⟩
  · simp only [World.cell?, i1]; rfl
  · simp only [World.cell?, i2]; rfl
  · subst hW
    rw [alloc_eq_grow, alloc_eq_grow, grow_grow]
    rfl
set_option maxHeartbeats 2000000 in
theorem less_x (a b c d u v : Int) (W : World) : Calls Tryz.prog 99 #[.agg #[.int .i64 a, .int .i64 b, .int .i64 u], .agg #[.int .i64 c, .int .i64 d, .int .i64 v]] W fun e w' => e = .returned (.int .i64 (orI (Lib.compareInt a c) (Lib.compareInt b d))) ∧ ∃ q os', w' = grow (W.drewN q) os' := by
  have hor := fun x y W' n hn => or_y x y W' n hn
  go_enter Tryz.func99, Tryz.ntmps99
  go_wp2
  refine still_tail_at 10 (by kernel_rfl) (by kernel_rfl) fun W3 hW3 => ?_
  obtain ⟨f1, f2, fs, fg⟩ := two_cells W _ _ _ _ _ _ rfl rfl W3 hW3
  clear hW3
  have a0 : W3.cell? ⟨W.heap.size, 0, none⟩ = some (.int .i64 a) := f1 0
  have a1 : W3.cell? ⟨W.heap.size, 1, none⟩ = some (.int .i64 b) := f1 1
  have b0 : W3.cell? ⟨W.heap.size + 1, 0, none⟩ = some (.int .i64 c) := f2 0
  have b1 : W3.cell? ⟨W.heap.size + 1, 1, none⟩ = some (.int .i64 d) := f2 1
  clear f1 f2
  have HD : Hid (W3 = _) := fg
  clear fg fs
  simp only [List.take_succ_cons, List.take_zero, List.drop_succ_cons, List.drop_zero]
  still_step
  still_step
  still_step
  still_step
  still_call (compare_x _ _ _)
  still_step
  still_step
  still_step
  still_step
  still_call (compare_x _ _ _)
  refine wpStill_nil ?_
  generalize h1 : Lib.compareInt a c = r1
  generalize h2 : Lib.compareInt b d = r2
  have hc := hor r1 r2 W3 W3.heap.size rfl
  clear hor
  generalize h3 : orI r1 r2 = r3 at hc
  go_wp2_with fail
  refine hc.mono ?_
  rintro e w' ⟨rfl, rfl⟩
  go_wp2_with fail
  go_ret
  constructor
  · rw [h1, h2, h3]; rfl
  · exact ⟨1, #[_, _] ++ #[_], by rw [HD.out, alloc_eq_grow, grow_grow]⟩

/-! ### Sorting portals -/
def PrLt (x y : Prt) : Prop := x.a < y.a ∨ (x.a = y.a ∧ x.b < y.b)
instance (x y : Prt) : Decidable (PrLt x y) := by unfold PrLt; exact inferInstance
def Prt.cs (x : Prt) : List Value := [.int .i64 x.a, .int .i64 x.b, .int .i64 x.width]
def cfP (x y : Prt) : Int := orI (Lib.compareInt x.a y.a) (Lib.compareInt x.b y.b)
theorem orI_lt (a b c d : Int) : orI (Lib.compareInt a c) (Lib.compareInt b d) < 0 ↔ (a < c ∨ (a = c ∧ b < d)) := by
  unfold orI Lib.compareInt
  by_cases h1 : a < c
  · simp [h1]
  · by_cases h2 : c < a
    · simp [h1, h2]; omega
    · have h3 : a = c := by omega
      subst h3
      by_cases h4 : b < d
      · simp [h4]
      · by_cases h5 : d < b <;> simp [h4, h5]
theorem cfP_lt (x y : Prt) : ltOf cfP x y = decide (PrLt x y) := decide_eq_decide.2 (orI_lt _ _ _ _)
theorem cfP_swo : SWO (ltOf cfP) where
  irrefl x := by rw [cfP_lt]; simp [PrLt]
  trans x y z h1 h2 := by rw [cfP_lt, decide_eq_true_eq] at h1 h2 ⊢; unfold PrLt at *; omega
  ntrans x y z h1 h2 := by rw [cfP_lt, decide_eq_false_iff_not] at h1 h2 ⊢; unfold PrLt at *; omega
def leP (a b : Prt) : Bool := !decide (PrLt b a)
/-- Sorted, and no two of one place. -/
def StrP (l : List Prt) : Prop := l.Pairwise PrLt
/-- No two of one place. -/
def DisP (l : List Prt) : Prop := l.Pairwise fun x y => ¬ (x.a = y.a ∧ x.b = y.b)
instance (l : List Prt) : Decidable (DisP l) := by unfold DisP; exact inferInstance
theorem strP_uniq : ∀ {l m : List Prt}, StrP l → StrP m → l.Perm m → l = m := fun {l m} h1 h2 hp =>
  List.Perm.eq_of_pairwise (le := PrLt) (fun a b _ _ h k => by unfold PrLt at h k; omega) h1 h2 hp
theorem strP_of {l : List Prt} (h : DisP l) (hs : l.Pairwise fun a b => ¬ PrLt b a) : StrP l :=
  (List.Pairwise.and h hs).imp fun {a b} ⟨h1, h2⟩ => by unfold PrLt at *; omega
theorem disP_perm {l m : List Prt} (hp : l.Perm m) (h : DisP l) : DisP m := hp.pairwise h (fun {a b} k q => k ⟨q.1.symm, q.2.symm⟩)
theorem sortP_str {l : List Prt} (h : DisP l) : StrP (l.mergeSort leP) := by
  refine strP_of (disP_perm (List.mergeSort_perm l leP).symm h) ?_
  have := List.pairwise_mergeSort (le := leP) (fun a b c h1 h2 => by simp only [leP, Bool.not_eq_true', decide_eq_false_iff_not] at *; unfold PrLt at *; omega) (fun a b => by simp only [leP, Bool.or_eq_true, Bool.not_eq_true', decide_eq_false_iff_not]; unfold PrLt; omega) l
  exact this.imp fun {a b} h1 => by simpa [leP] using h1
def slices_SortFuncP (a : List Prt) : Option (List Prt) := if a.length ≤ 1000000 ∧ DisP a then some (a.mergeSort leP) else none
theorem rfP {H : Hp} : ∀ {xs : List Prt} {cs : List Value}, RF H xs cs ↔ cs = xs.flatMap Prt.cs
  | [], cs => ⟨fun e => e, fun e => e⟩
  | x :: xs, cs => by
    constructor
    · rintro ⟨c, r, e, hx, hr⟩
      have hx : c = x.cs := hx
      rw [e, hx, rfP.1 hr]; rfl
    · intro e
      exact ⟨x.cs, xs.flatMap Prt.cs, by rw [e]; rfl, rfl, rfP.2 rfl⟩
theorem slices_SortFuncP_walk {w0 : World} {F : Ch} (a0 : List Prt) {q0 : Option Nat × Nat} {m0 : Nat} (hm : m0 = a0.length) {r : List Prt} (H : slices_SortFuncP a0 = some r) (w : World) (s : Sat w0 [row nilH 67 (rowV q0 m0) a0, F] w) :
    Calls Tryz.prog 98 #[rowV q0 m0, .func (.func 99) #[] #[]] w fun e w' => e = .returned (.tuple #[]) ∧ Sat w0 [row nilH 67 (rowV q0 m0) r, F] w' := by
  subst hm
  unfold slices_SortFuncP at H
  obtain ⟨⟨hlt, hdis⟩, H⟩ := gdE H
  obtain rfl := Option.some.inj H
  obtain ⟨p, hp, s1⟩ := s.freeze 0 rfl
  rcases hp with ⟨hv, hnil⟩ | ⟨g, cap, cs, sp, hv, hg, h3, h4, h5, h6⟩
  · subst hnil
    have hc := AnyF.slices_SortFunc_none sortLay none 0 (.func (.func 99) #[] #[]) w
    rw [hv]
    rw [hv] at s
    refine Calls.mono (show Calls Tryz.prog 98 #[.slice none 0 0, .func (.func 99) #[] #[]] w _ from hc) ?_
    rintro e w' ⟨rfl, rfl⟩
    exact ⟨rfl, by simpa using s⟩
  · have hz2 := rfP.1 (show RF _ a0 cs from h6)
    have s2 := s1.weaken 0 rfl (fun h => h g = some (.cells (a0.flatMap Prt.cs ++ sp).toArray 67 (0, 0)) ∧ h.off g = p.off g) (fun r hr => by rw [show r = p from hr]; exact ⟨by rw [← hz2]; exact hg, rfl⟩)
    have eg : ∀ args w, (callFunc 99 args).run Tryz.prog w = .ok (.enter 99 args) w := enters_of Tryz.func99 (by kernel_rfl) rfl
    have hc := sort_core sortLay 3 (by decide) tI_agg tI_size Prt.cs (fun _ => rfl) (fun x u hu => by
      simp only [Prt.cs, List.mem_cons, List.not_mem_nil, or_false] at hu
      rcases hu with rfl | rfl | rfl <;> rfl) cfP cfP_swo 99 eg (fun x y W => less_x _ _ _ _ _ _ W) g cap a0 sp 67 (fun h => h = p.off g) (by omega) s2
    obtain ⟨hperm, hlen, hsort⟩ := sortF_spec cfP_swo a0
    rw [hv]
    refine Calls.mono (show Calls Tryz.prog 98 #[.slice (some ⟨g, 0, none⟩) a0.length cap, .func (.func 99) #[] #[]] w _ from hc) ?_
    rintro e w' ⟨rfl, s3⟩
    have hsrt : (sortF (ltOf cfP) a0).Pairwise fun a b => ¬ PrLt b a := by
      rw [List.pairwise_iff_getElem]
      intro i j hi hj hij
      have := hsort i j hij (by rw [← hlen]; exact hj)
      rw [cfP_lt, decide_eq_false_iff_not, getElem!_pos _ i hi, getElem!_pos _ j hj] at this
      exact this
    have heq : sortF (ltOf cfP) a0 = a0.mergeSort leP := strP_uniq (strP_of (disP_perm hperm.symm hdis) hsrt) (sortP_str hdis) (hperm.trans (List.mergeSort_perm a0 leP).symm)
    refine ⟨rfl, ?_⟩
    have hl2 : (a0.mergeSort leP).length = a0.length := List.length_mergeSort a0
    rw [heq] at s3
    have s4 := s3.weaken 0 rfl (row nilH 67 (.slice (some ⟨g, 0, none⟩) a0.length cap) (a0.mergeSort leP)) (fun h hr => .inr ⟨g, cap, _, sp, by rw [hl2], hr.1, by rw [hl2]; exact h3, h4, ?_, ?_⟩)
    · exact s4
    · have e1 := flatMap_len Prt.cs 3 (fun _ => rfl) (a0.mergeSort leP)
      have e2 := flatMap_len Prt.cs 3 (fun _ => rfl) a0
      rw [hz2, List.length_append, e2, ← hl2, ← e1, ← List.length_append] at h5
      exact h5
    · exact rfP.2 rfl
end Go.Proofs.YthdbofgcckjopaaGreat
