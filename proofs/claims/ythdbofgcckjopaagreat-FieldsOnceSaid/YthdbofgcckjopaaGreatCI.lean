/-
  Walks of slices.Insert of one element and slices.Delete over a row of one's own. For every world; the conditions stand in each function.
-/
import Derived.Test.YthdbofgcckjopaaGreatRows
import Derived.Test.YthdbofgcckjopaaGreatW2
set_option linter.unusedVariables false
set_option linter.unusedSimpArgs false
set_option maxRecDepth 20000
set_option maxHeartbeats 4000000
namespace Go.Proofs.YthdbofgcckjopaaGreat
open Go.Vg
open Enc (R)
--BEGIN
theorem cI_sl : slTy Tryz.prog 23 = some (3, Enc.sz Int, 8) := by kernel_rfl
theorem cI_zr : ∃ z, zeroOf Tryz.prog 3 = some z ∧ z.cells.size = Enc.sz Int ∧ (∀ u ∈ z.cells.toList, u.oneCell' = true) ∧ R nilH (0 : Int) z.cells.toList := ⟨(.int .i64 0), by kernel_rfl, by rfl, by decide, by rfl⟩
theorem cI_mixed : Tryz.prog.follows .mixedOrders = true := by kernel_rfl
theorem cI_bool : (Tryz.prog.underlying 3) = some (.int .i64) := by kernel_rfl
def slices_Insert (xs : List Int) (i : Int) (ys : List Int) : Option (List Int) := if ys.length = 1 ∧ (0 ≤ i ∧ i ≤ (xs.length : Int)) ∧ xs.length < 1099511627775 then some (xs.take i.toNat ++ ys ++ xs.drop i.toNat) else none
def slices_Delete (xs : List Int) (i j : Int) : Option (List Int) := if (0 ≤ i ∧ i ≤ j ∧ j ≤ (xs.length : Int)) ∧ xs.length < 1099511627775 then some (xs.take i.toNat ++ xs.drop j.toNat) else none
theorem slices_Delete_walk {w0 : World} {F : Ch} (a0 : List Int) (a1 a2 : Int) {q0 : Option Nat × Nat} {m0 : Nat} (hm : m0 = a0.length) {r : List Int} (H : slices_Delete a0 a1 a2 = some r) (w : World) (s : Sat w0 [row nilH 3 (rowV q0 m0) a0, F] w) :
    Calls Tryz.prog 173 #[rowV q0 m0, .int .i64 a1, .int .i64 a2] w fun e w' => ∃ q : Option Nat × Nat, e = .returned (rowV q r.length) ∧ Sat w0 [row nilH 3 (rowV q r.length) r, F] w' := by
  subst hm
  unfold slices_Delete at H
  obtain ⟨⟨⟨h0, h1, h2⟩, h3⟩, H⟩ := gdE H
  obtain rfl := Option.some.inj H
  obtain ⟨i, rfl⟩ := Int.eq_ofNat_of_zero_le h0
  obtain ⟨j, rfl⟩ := Int.eq_ofNat_of_zero_le (Int.le_trans h0 h1)
  simp only [Int.toNat_natCast]
  have hij : i ≤ j := by omega
  have hjn : j ≤ a0.length := by omega
  have hfit := s.row_fits (k := 0) rfl
  refine T.enter (args := [_, _, _]) (S := Sat w0 [row nilH 3 (rowV q0 a0.length) a0, F]) Tryz.func173 rfl rfl s ?_
  refine T.seq fun K1 hK1 => ?_
  refine T.region ?_
  refine RS.p (Pu.assign rfl) rfl rfl ?_
  refine RS.nil (hK1 _ _ ?_)
  refine T.seq fun K2 hK2 => ?_
  refine T.region ?_
  refine RS.p (Pu.move rfl) rfl rfl ?_
  refine RS.p (Pu.move rfl) rfl rfl ?_
  refine RS.p (Pu.move rfl) rfl rfl ?_
  refine RS.p (Pu.move rfl) rfl rfl ?_
  refine RS.p (Pu.lenSl cI_sl rfl) rfl rfl ?_
  refine RS.p (Pu.slice3 cI_sl rfl rfl rfl rfl (by omega)) rfl rfl ?_
  refine RS.nil (hK2 _ _ ?_)
  refine T.seq fun K3 hK3 => ?_
  refine T.seq fun K4 hK4 => ?_
  refine T.region ?_
  refine RS.p (Pu.move rfl) rfl rfl ?_
  refine RS.p (Pu.move rfl) rfl rfl ?_
  refine RS.p (Pu.bin rfl rfl rfl) rfl rfl ?_
  refine RS.nil (hK4 _ _ ?_)
  refine T.condP rfl (fun hc => ?_) (fun hc => ?_)
  · have hc' : i = j := by omega
    subst hc'
    refine T.seq fun K5 hK5 => ?_
    refine T.region ?_
    refine RS.p (Pu.move rfl) rfl rfl ?_
    refine RS.p (Pu.assign rfl) rfl rfl ?_
    refine RS.nil (hK5 _ _ ?_)
    refine T.retTo (by with_reducible ((repeat (first | apply RetTo.seq | apply RetTo.blk)); exact RetTo.refl _)) (Cont.ret1 rfl rfl fun w' s => ?_)
    rw [List.take_append_drop]
    exact ⟨q0, rfl, s⟩
  refine T.skip (hK3 _ _ ?_)
  have hlt : i < j := by omega
  refine T.know (p := ∃ g cap, q0 = (some g, cap)) (fun w s => s.row_some (k := 0) rfl (by omega)) ?_
  rintro ⟨gg, c, rfl⟩
  try dsimp only at hfit
  refine T.seq fun K6 hK6 => ?_
  refine T.region ?_
  refine RS.p (Pu.move rfl) rfl rfl ?_
  refine RS.p (Pu.lenSl cI_sl rfl) rfl rfl ?_
  refine RS.p (Pu.assign rfl) rfl rfl ?_
  refine RS.nil (hK6 _ _ ?_)
  have hyl : (a0.drop j).length = a0.length - j := List.length_drop
  have hiy : i + (a0.drop j).length ≤ a0.length := by omega
  refine T.seq fun K7 hK7 => ?_
  refine T.drawn (fun _ => True) [(0, .pu), (1, .pu), (2, .pu), (3, .pu), (4, .pu), (5, .pu), (6, .br), (7, .pu)] cI_mixed (ClE.sat _ _) (by kernel_rfl) ?_
  refine RD.p (fun _ _ => trivial) rfl (Pu.move rfl) rfl rfl ?_
  refine RD.p (fun _ _ => trivial) rfl (Pu.move rfl) rfl rfl ?_
  refine RD.p (fun _ _ => trivial) rfl (Pu.sliceHn (j := i) cI_sl rfl rfl rfl (by omega)) rfl rfl ?_
  refine RD.p (fun _ _ => trivial) rfl (Pu.move rfl) rfl rfl ?_
  refine RD.p (fun _ _ => trivial) rfl (Pu.move rfl) rfl rfl ?_
  refine RD.p (fun _ _ => trivial) rfl (Pu.sliceL cI_sl rfl rfl (by omega)) rfl rfl ?_
  refine RD.solid rfl (.inr rfl) rfl rfl (Sd.appCut (α := Int) (ys := a0.drop j) 0 i rfl cI_sl rfl rfl (Rd.drop (Rd.ofRowN 0 rfl) hjn rfl) hiy) (fun _ => ClE.sat _ _) (fun _ _ _ => trivial) (fun h => nomatch h) fun _ => ?_
  refine RD.p (fun _ _ => trivial) rfl (Pu.assign rfl) rfl rfl ?_
  refine RD.nil (hK7 _ _ ?_)
  obtain ⟨z, hz1, hz2, hz3, hz4⟩ := cI_zr
  refine T.seq fun K8 hK8 => ?_
  refine T.region ?_
  refine RS.p (Pu.move rfl) rfl rfl ?_
  refine RS.p (Pu.move rfl) rfl rfl ?_
  refine RS.p (Pu.lenSl cI_sl rfl) rfl rfl ?_
  refine RS.p (Pu.move rfl) rfl rfl ?_
  refine RS.p (Pu.sliceLHs (j := i + (a0.drop j).length) (i := a0.length) cI_sl rfl rfl rfl rfl rfl hiy (by have := hfit.2.1; omega) (by have := hfit.2.1; omega)) rfl rfl ?_
  refine RS.solid (Sd.clearSp (α := Int) 0 (i + (a0.drop j).length) rfl cI_sl hz1 hz2 hz3 (by simp only [ev, look_cons]; simp; rfl) (by simp; omega) (by have := hfit.2.1; omega) (by omega)) rfl rfl fun _ => ?_
  refine RS.nil (hK8 _ _ ?_)
  refine T.seq fun K9 hK9 => ?_
  refine T.region ?_
  refine RS.p (Pu.move rfl) rfl rfl ?_
  refine RS.p (Pu.assign rfl) rfl rfl ?_
  refine RS.nil (hK9 _ _ ?_)
  refine T.retTo (by with_reducible ((repeat (first | apply RetTo.seq | apply RetTo.blk)); exact RetTo.refl _)) (Cont.ret1 rfl rfl fun w' s => ?_)
  have e : (a0.take i ++ a0.drop j).length = i + (a0.drop j).length := by rw [List.length_append, List.length_take, Nat.min_eq_left (by omega)]
  rw [e]
  exact ⟨(some gg, c), rfl, s⟩
theorem cI_ovl : ∃ fn, Tryz.prog.funcs[(174 : Nat)]? = some fn ∧ isOvl fn 23 4 := ⟨_, Tryz.func174, by kernel_rfl, by kernel_rfl, by kernel_rfl, by kernel_rfl⟩
theorem slices_Insert_walk {w0 : World} {F : Ch} (a0 : List Int) (a1 : Int) (a2 : List Int) {q0 : Option Nat × Nat} {m0 : Nat} (hm : m0 = a0.length) {v0 : Value} (hv : Rd (Sat w0 [F]) a2 [v0]) {r : List Int} (H : slices_Insert a0 a1 a2 = some r) (w : World) (s : Sat w0 [row nilH 3 (rowV q0 m0) a0, F] w) :
    Calls Tryz.prog 148 #[rowV q0 m0, .int .i64 a1, v0] w fun e w' => ∃ q : Option Nat × Nat, e = .returned (rowV q r.length) ∧ Sat w0 [row nilH 3 (rowV q r.length) r, F] w' := by
  subst hm
  unfold slices_Insert at H
  obtain ⟨⟨hy1, ⟨h0, h1⟩, h3⟩, H⟩ := gdE H
  obtain rfl := Option.some.inj H
  obtain ⟨y, rfl⟩ : ∃ y, a2 = [y] := by
    match a2, hy1 with
    | [y], _ => exact ⟨y, rfl⟩
  obtain ⟨i, rfl⟩ := Int.eq_ofNat_of_zero_le h0
  simp only [Int.toNat_natCast]
  have hin : i ≤ a0.length := by omega
  have hfit := s.row_fits (k := 0) rfl
  obtain ⟨p, cc, rfl⟩ := R_form (hv w (s.pick [1] (by decide) rfl))
  have hl1 : ([y] : List Int).length = 1 := rfl
  rw [hl1] at hv ⊢
  obtain ⟨z, hz1, hz2, hz3, hz4⟩ := cI_zr
  refine T.enter (args := [_, _, _]) (S := Sat w0 [row nilH 3 (rowV q0 a0.length) a0, F]) Tryz.func148 rfl rfl s ?_
  refine T.seq fun K1 hK1 => ?_
  refine T.region ?_
  refine RS.p (Pu.assign rfl) rfl rfl ?_
  refine RS.nil (hK1 _ _ ?_)
  refine T.seq fun K2 hK2 => ?_
  refine T.region ?_
  refine RS.p (Pu.move rfl) rfl rfl ?_
  refine RS.p (Pu.move rfl) rfl rfl ?_
  refine RS.p (Pu.sliceL cI_sl rfl rfl (by omega)) rfl rfl ?_
  refine RS.nil (hK2 _ _ ?_)
  refine T.seq fun K3 hK3 => ?_
  refine T.region ?_
  refine RS.p (Pu.move rfl) rfl rfl ?_
  refine RS.p (Pu.lenSl cI_sl rfl) rfl rfl ?_
  refine RS.p (Pu.assign rfl) rfl rfl ?_
  refine RS.nil (hK3 _ _ ?_)
  refine T.seq fun K4 hK4 => ?_
  refine T.seq fun K5 hK5 => ?_
  refine T.region ?_
  refine RS.p (Pu.move rfl) rfl rfl ?_
  refine RS.p (Pu.bin rfl rfl rfl) rfl rfl ?_
  refine RS.nil (hK5 _ _ ?_)
  refine T.condP rfl (fun hc => absurd hc (by omega)) (fun hc => ?_)
  refine T.skip (hK4 _ _ ?_)
  refine T.seq fun K6 hK6 => ?_
  refine T.region ?_
  refine RS.p (Pu.move rfl) rfl rfl ?_
  refine RS.p (Pu.lenSl cI_sl rfl) rfl rfl ?_
  refine RS.p (Pu.assign rfl) rfl rfl ?_
  refine RS.nil (hK6 _ _ ?_)
  refine T.seq fun K7 hK7 => ?_
  refine T.seq fun K8 hK8 => ?_
  refine T.region ?_
  refine RS.p (Pu.move rfl) rfl rfl ?_
  refine RS.p (Pu.move rfl) rfl rfl ?_
  refine RS.p (Pu.bin rfl rfl rfl) rfl rfl ?_
  refine RS.nil (hK8 _ _ ?_)
  refine T.condP rfl (fun hin' => ?_) (fun hin' => ?_)
  · refine T.seq fun K9 hK9 => ?_
    refine T.region ?_
    refine RS.p (Pu.move rfl) rfl rfl ?_
    refine RS.p (Pu.move rfl) rfl rfl ?_
    refine RS.solid (Sd.appR (α := Int) 0 (nilH_lt _) rfl cI_sl hz1 hz2 rfl rfl (Rd.ofFrame 1 rfl hv) (by simp only [List.length_cons, List.length_nil]; omega) (by decide)) rfl rfl fun q => ?_
    refine RS.p (Pu.assign rfl) rfl rfl ?_
    refine RS.nil (hK9 _ _ ?_)
    refine T.retTo (by with_reducible ((repeat (first | apply RetTo.seq | apply RetTo.blk)); exact RetTo.refl _)) (Cont.ret1 rfl rfl fun w' s => ?_)
    have hi : i = a0.length := by omega
    subst hi
    rw [List.take_length, List.drop_length, List.append_nil]
    exact ⟨q, rfl, s⟩
  refine T.skip (hK7 _ _ ?_)
  have hlt : i < a0.length := by omega
  refine T.know (p := ∃ g cap, q0 = (some g, cap)) (fun w s => s.row_some (k := 0) rfl (by omega)) ?_
  rintro ⟨gg, c, rfl⟩
  try dsimp only at hfit
  refine T.seq fun KA1 hKA1 => ?_
  refine T.seq fun KB1 hKB1 => ?_
  refine T.region ?_
  refine RS.p (Pu.move rfl) rfl rfl ?_
  refine RS.p (Pu.move rfl) rfl rfl ?_
  refine RS.p (Pu.addS rfl rfl (by omega)) rfl rfl ?_
  refine RS.p (Pu.move rfl) rfl rfl ?_
  refine RS.p (Pu.capSl cI_sl rfl) rfl rfl ?_
  refine RS.p (Pu.bin rfl rfl rfl) rfl rfl ?_
  refine RS.nil (hKB1 _ _ ?_)
  refine T.condP rfl (fun hg => ?_) (fun hg => ?_)
  · have hkk : (((a0.length : Nat) : Int) + ((1 : Nat) : Int) - (i : Int)) = ((a0.length + 1 - i : Nat) : Int) := by omega
    refine T.seq fun KC1 hKC1 => ?_
    refine T.region ?_
    refine RS.p (Pu.move rfl) rfl rfl ?_
    refine RS.p (Pu.move rfl) rfl rfl ?_
    refine RS.p (Pu.sliceHn (j := i) cI_sl rfl rfl rfl (by omega)) rfl rfl ?_
    refine RS.p (Pu.move rfl) rfl rfl ?_
    refine RS.p (Pu.move rfl) rfl rfl ?_
    refine RS.p (Pu.addS rfl rfl (by omega)) rfl rfl ?_
    refine RS.p (Pu.move rfl) rfl rfl ?_
    refine RS.p (Pu.subS rfl rfl (by omega)) rfl rfl ?_
    refine RS.solid (Sd.appZeros (α := Int) (z0 := 0) (kk := a0.length + 1 - i) 0 i rfl cI_sl hz1 hz4 (by decide) cI_bool rfl rfl hkk (by omega) (by omega) (by omega) (by omega) (by decide)) rfl rfl fun q => ?_
    refine RS.p (Pu.assign rfl) rfl rfl ?_
    refine RS.nil (hKC1 _ _ ?_)
    have hTl : (a0.take i ++ List.replicate (a0.length + 1 - i) (0 : Int)).length = i + (a0.length + 1 - i) := by simp only [List.length_append, List.length_take, List.length_replicate]; omega
    refine T.know (p := ∃ g cap, q = (some g, cap)) (fun w s => s.row_some (k := 2) rfl (by rw [hTl]; omega)) ?_
    rintro ⟨bb, cb, rfl⟩
    refine T.know (fun w s => s.row_fits (k := 2) rfl) fun hfb => ?_
    try dsimp only at hfb
    have hfb2 := hfb.2.1
    refine T.seq fun KD1 hKD1 => ?_
    refine T.region ?_
    refine RS.p (Pu.move rfl) rfl rfl ?_
    refine RS.p (Pu.move rfl) rfl rfl ?_
    refine RS.p (Pu.sliceLs (j := i) cI_sl rfl rfl rfl (by omega) (by omega)) rfl rfl ?_
    refine RS.p (Pu.move rfl) rfl rfl ?_
    refine RS.solid (Sd.copyR (α := Int) (o := i) 2 rfl cI_sl rfl rfl (Rd.ofFrame 1 rfl hv) (Nat.zero_add _) (by rw [hTl]; have h : Nat.min 1 (i + (a0.length + 1 - i) - i) ≤ 1 := Nat.min_le_left _ _; omega)) rfl rfl fun _ => ?_
    refine RS.nil (hKD1 _ _ ?_)
    refine T.seq fun KE1 hKE1 => ?_
    refine T.drawn (fun _ => True) [(0, .pu), (1, .pu), (2, .pu), (3, .pu), (4, .pu), (5, .pu), (6, .pu), (7, .pu), (8, .br)] cI_mixed (ClE.sat _ _) (by kernel_rfl) ?_
    refine RD.p (fun _ _ => trivial) rfl (Pu.move rfl) rfl rfl ?_
    refine RD.p (fun _ _ => trivial) rfl (Pu.move rfl) rfl rfl ?_
    refine RD.p (fun _ _ => trivial) rfl (Pu.move rfl) rfl rfl ?_
    refine RD.p (fun _ _ => trivial) rfl (Pu.addS rfl rfl (by omega)) rfl rfl ?_
    refine RD.p (fun _ _ => trivial) rfl (Pu.sliceLs (j := i + 1) cI_sl rfl rfl (by omega) (by omega) (by omega)) rfl rfl ?_
    refine RD.p (fun _ _ => trivial) rfl (Pu.move rfl) rfl rfl ?_
    refine RD.p (fun _ _ => trivial) rfl (Pu.move rfl) rfl rfl ?_
    refine RD.p (fun _ _ => trivial) rfl (Pu.sliceLn (j := i) cI_sl rfl rfl rfl hin) rfl rfl ?_
    have hX : (a0.take i ++ List.replicate (a0.length + 1 - i) (0 : Int)).take i ++ [y].take (Nat.min 1 (i + (a0.length + 1 - i) - i)) ++ (a0.take i ++ List.replicate (a0.length + 1 - i) (0 : Int)).drop (i + Nat.min 1 (i + (a0.length + 1 - i) - i)) = (a0.take i ++ List.replicate (a0.length + 1 - i) (0 : Int)).take i ++ [y].take (Nat.min 1 (a0.length + 1 - i)) ++ (a0.take i ++ List.replicate (a0.length + 1 - i) (0 : Int)).drop (i + Nat.min 1 (a0.length + 1 - i)) := by rw [Nat.add_sub_cancel_left]
    have hXl : ((a0.take i ++ List.replicate (a0.length + 1 - i) (0 : Int)).take i ++ [y].take (Nat.min 1 (i + (a0.length + 1 - i) - i)) ++ (a0.take i ++ List.replicate (a0.length + 1 - i) (0 : Int)).drop (i + Nat.min 1 (i + (a0.length + 1 - i) - i))).length = a0.length + 1 := by
      have h : Nat.min 1 (i + (a0.length + 1 - i) - i) = 1 := Nat.min_eq_left (by omega)
      rw [h]; simp only [List.length_append, List.length_take, List.length_drop, List.length_replicate, List.length_cons, List.length_nil]; omega
    refine RD.solid rfl (.inr rfl) rfl rfl (Sd.copyR (α := Int) (o := i + 1) 2 rfl cI_sl rfl rfl (Rd.drop (Rd.ofRowN 0 rfl) hin rfl) (Nat.zero_add _) (by rw [hXl]; have h : Nat.min (a0.length - i) (i + (a0.length + 1 - i) - (i + 1)) ≤ a0.length - i := Nat.min_le_left _ _; omega)) (fun _ => ClE.sat _ _) (fun _ _ _ => trivial) (fun h => nomatch h) fun _ => ?_
    refine RD.nil (hKE1 _ _ ?_)
    refine T.seq fun KF1 hKF1 => ?_
    refine T.region ?_
    refine RS.p (Pu.move rfl) rfl rfl ?_
    refine RS.p (Pu.assign rfl) rfl rfl ?_
    refine RS.nil (hKF1 _ _ ?_)
    refine T.retTo (by with_reducible ((repeat (first | apply RetTo.seq | apply RetTo.blk)); exact RetTo.refl _)) (Cont.ret1 rfl rfl fun w' s => ?_)
    have hmm : Nat.min (a0.length - i) (i + (a0.length + 1 - i) - (i + 1)) = Nat.min (a0.length - i) (a0.length - i) := by congr 1; omega
    have hfin := ins_grow (xs := a0) (i := i) (y := y) (z := (0 : Int)) hlt
    refine ⟨(some bb, cb), ?_, ?_⟩
    · show Ending.returned (.slice (some ⟨bb, 0, none⟩) (i + (a0.length + 1 - i)) cb) = .returned (.slice (some ⟨bb, 0, none⟩) (a0.take i ++ [y] ++ a0.drop i).length cb)
      congr 2
      simp only [List.length_append, List.length_take, List.length_drop, List.length_cons, List.length_nil]; omega
    · have s2 := s.pick (G' := [row nilH 3 (.slice (some ⟨bb, 0, none⟩) (i + (a0.length + 1 - i)) cb) _, F]) [2, 1] (by decide) rfl
      have hl : (a0.take i ++ [y] ++ a0.drop i).length = i + (a0.length + 1 - i) := by simp only [List.length_append, List.length_take, List.length_drop, List.length_cons, List.length_nil]; omega
      rw [hmm, hX, hfin] at s2
      rw [hl]
      exact s2
  refine T.skip (hKA1 _ _ ?_)
  have hroom : a0.length + 1 ≤ c := by omega
  obtain ⟨bv, ov, rfl, hbv, _⟩ := apart_of (C := row nilH 3 (rowV (some gg, c) a0.length) a0) (F := F) s (fun q hq => by
    rcases hq with ⟨hq, _⟩ | ⟨g', cap, cs, sp, hq, h1, _⟩
    · simp [rowV] at hq
    · simp only [rowV, Option.map_some, Value.slice.injEq, Option.some.injEq, Addr.mk.injEq, and_true] at hq
      obtain ⟨rfl, _⟩ := hq
      exact ⟨_, h1⟩) hv (by decide)
  refine T.seq fun KG1 hKG1 => ?_
  refine T.region ?_
  refine RS.p (Pu.move rfl) rfl rfl ?_
  refine RS.p (Pu.move rfl) rfl rfl ?_
  refine RS.p (Pu.move rfl) rfl rfl ?_
  refine RS.p (Pu.addS rfl rfl (by omega)) rfl rfl ?_
  refine RS.p (Pu.sliceHn (j := a0.length + 1) cI_sl rfl rfl (by omega) hroom) rfl rfl ?_
  refine RS.p (Pu.assign rfl) rfl rfl ?_
  refine RS.nil (hKG1 _ _ ?_)
  refine T.seq fun KH1 hKH1 => ?_
  refine T.seq fun KI1 hKI1 => ?_
  refine T.region ?_
  refine RS.p (Pu.move rfl) rfl rfl ?_
  refine RS.p (Pu.move rfl) rfl rfl ?_
  refine RS.p (Pu.move rfl) rfl rfl ?_
  refine RS.p (Pu.move rfl) rfl rfl ?_
  refine RS.p (Pu.addS rfl rfl (by omega)) rfl rfl ?_
  refine RS.p (Pu.sliceLs (j := i + 1) cI_sl rfl rfl (by omega) (by omega) (by omega)) rfl rfl ?_
  obtain ⟨fno, hfo, hoo⟩ := cI_ovl
  refine RS.q (Qt.overlaps hfo hoo cI_sl rfl rfl (fun w s => ?_)) rfl rfl ?_
  · have hsp : Sat w0 [row nilH 3 (rowV (some gg, c) a0.length) a0, F] w := s
    obtain ⟨b2, o2, e2, hb2, hcells⟩ := apart_of (C := row nilH 3 (rowV (some gg, c) a0.length) a0) (F := F) hsp (fun q hq => by
      rcases hq with ⟨hq, _⟩ | ⟨g', cap, cs, sp, hq, h1, _⟩
      · simp [rowV] at hq
      · simp only [rowV, Option.map_some, Value.slice.injEq, Option.some.injEq, Addr.mk.injEq, and_true] at hq
        obtain ⟨rfl, _⟩ := hq
        exact ⟨_, h1⟩) hv (by decide)
    simp only [Option.some.injEq, Addr.mk.injEq, and_true] at e2
    obtain ⟨rfl, rfl⟩ := e2
    obtain ⟨cs, sp, k1, _, k3, _⟩ := hsp.rowCells (k := 0) rfl
    refine ⟨hbv, hcells, _, _, k1, ?_⟩
    simp only [List.size_toArray]
    rw [k3]
    exact Nat.mul_pos (by omega) (by decide)
  refine RS.p (Pu.not rfl) rfl rfl ?_
  refine RS.nil (hKI1 _ _ ?_)
  refine T.condT rfl ?_
  refine T.seq fun KJ1 hKJ1 => ?_
  refine T.drawn (fun _ => True) [(0, .pu), (1, .pu), (2, .pu), (3, .pu), (4, .pu), (5, .pu), (6, .pu), (7, .pu), (8, .br)] cI_mixed (ClE.sat _ _) (by kernel_rfl) ?_
  refine RD.p (fun _ _ => trivial) rfl (Pu.move rfl) rfl rfl ?_
  refine RD.p (fun _ _ => trivial) rfl (Pu.move rfl) rfl rfl ?_
  refine RD.p (fun _ _ => trivial) rfl (Pu.move rfl) rfl rfl ?_
  refine RD.p (fun _ _ => trivial) rfl (Pu.addS rfl rfl (by omega)) rfl rfl ?_
  refine RD.p (fun _ _ => trivial) rfl (Pu.sliceLs (j := i + 1) cI_sl rfl rfl (by omega) (by omega) (by omega)) rfl rfl ?_
  refine RD.p (fun _ _ => trivial) rfl (Pu.move rfl) rfl rfl ?_
  refine RD.p (fun _ _ => trivial) rfl (Pu.move rfl) rfl rfl ?_
  refine RD.p (fun _ _ => trivial) rfl (Pu.sliceLs (j := i) cI_sl rfl rfl rfl (by omega) (by omega)) rfl rfl ?_
  refine RD.solid rfl (.inr rfl) rfl rfl (Sd.copyUp (α := Int) 0 i rfl cI_sl hlt hroom (vsl (by omega) (by omega)) (vsl (by omega) rfl) (by omega)) (fun _ => ClE.sat _ _) (fun _ _ _ => trivial) (fun h => nomatch h) fun _ => ?_
  refine RD.nil (hKJ1 _ _ ?_)
  have hXl : (a0.take (i + 1) ++ a0.drop i).length = a0.length + 1 := by simp only [List.length_append, List.length_take, List.length_drop]; omega
  refine T.seq fun KL1 hKL1 => ?_
  refine T.region ?_
  refine RS.p (Pu.move rfl) rfl rfl ?_
  refine RS.p (Pu.move rfl) rfl rfl ?_
  refine RS.p (Pu.sliceLs (j := i) cI_sl rfl rfl rfl (by omega) (by omega)) rfl rfl ?_
  refine RS.p (Pu.move rfl) rfl rfl ?_
  refine RS.solid (Sd.copyR (α := Int) (o := i) 0 rfl cI_sl rfl rfl (Rd.ofFrame 1 rfl hv) (Nat.zero_add _) (by rw [hXl]; have h : Nat.min 1 (a0.length + 1 - i) ≤ 1 := Nat.min_le_left _ _; omega)) rfl rfl fun _ => ?_
  refine RS.nil (hKL1 _ _ ?_)
  refine T.seq fun KM1 hKM1 => ?_
  refine T.region ?_
  refine RS.p (Pu.move rfl) rfl rfl ?_
  refine RS.p (Pu.assign rfl) rfl rfl ?_
  refine RS.nil (hKM1 _ _ ?_)
  refine T.retTo (by with_reducible ((repeat (first | apply RetTo.seq | apply RetTo.blk)); exact RetTo.refl _)) (Cont.ret1 rfl rfl fun w' s => ?_)
  have hfin := ins_up (xs := a0) (i := i) (y := y) (m := Nat.min 1 (a0.length + 1 - i)) hlt (Nat.min_eq_left (by omega))
  have hl : (a0.take i ++ [y] ++ a0.drop i).length = a0.length + 1 := by simp only [List.length_append, List.length_take, List.length_drop, List.length_cons, List.length_nil]; omega
  have s2 := s.pick (G' := [row nilH 3 (.slice (some ⟨gg, 0, none⟩) (a0.length + 1) c) _, F]) [0, 1] (by decide) rfl
  rw [hfin] at s2
  rw [hl]
  exact ⟨(some gg, c), rfl, s2⟩
--END
end Go.Proofs.YthdbofgcckjopaaGreat
