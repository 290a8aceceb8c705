/-
  Walks of what the statements of the sectors call.
-/
import Derived.Test.YtacpdjccbadomaaRows
import Derived.Test.YtacpdjccbadomaaSG
set_option linter.unusedVariables false
set_option linter.unusedSimpArgs false
set_option maxRecDepth 20000
set_option maxHeartbeats 1000000
namespace Go.Proofs.Ytacpdjccbadomaa
open Go.Vg
open Enc (R)
open Sp
theorem ent22 : Ent Try.prog 22 := ⟨_, _, Try.func22, by kernel_rfl, rfl⟩
theorem ent25 : Ent Try.prog 25 := ⟨_, _, Try.func25, by kernel_rfl, rfl⟩
theorem ent27 : Ent Try.prog 27 := ⟨_, _, Try.func27, by kernel_rfl, rfl⟩
theorem ent28 : Ent Try.prog 28 := ⟨_, _, Try.func28, by kernel_rfl, rfl⟩
theorem ent34 : Ent Try.prog 34 := ⟨_, _, Try.func34, by kernel_rfl, rfl⟩
theorem ent35 : Ent Try.prog 35 := ⟨_, _, Try.func35, by kernel_rfl, rfl⟩
theorem ent37 : Ent Try.prog 37 := ⟨_, _, Try.func37, by kernel_rfl, rfl⟩
theorem ent57 : Ent Try.prog 57 := ⟨_, _, Try.func57, by kernel_rfl, rfl⟩
theorem ent59 : Ent Try.prog 59 := ⟨_, _, Try.func59, by kernel_rfl, rfl⟩
theorem ent61 : Ent Try.prog 61 := ⟨_, _, Try.func61, by kernel_rfl, rfl⟩
theorem ent63 : Ent Try.prog 63 := ⟨_, _, Try.func63, by kernel_rfl, rfl⟩
theorem ground_Side_walk (a0_n : Int) (w : World) {r : Bool} (H : ground_Side a0_n = some r) : Calls Try.prog 69 #[.int .i64 a0_n] w fun e w' => e = .returned (.bool r) ∧ Ext w w' := by
  unfold ground_Side at H
  refine T.enter (args := [_]) (S := Sat w []) Try.func69 rfl rfl (Sat.start w) ?_
  refine T.seq fun K1 hK1 => ?_
  refine T.region ?_
  refine RS.p (Pu.assign rfl) rfl rfl ?_
  refine RS.nil (hK1 _ _ ?_)
  refine T.seq fun K2 hK2 => ?_
  refine T.region ?_
  refine RS.p (Pu.move rfl) rfl rfl ?_
  refine RS.p (Pu.bin rfl rfl rfl) rfl rfl ?_
  refine RS.p (Pu.move rfl) rfl rfl ?_
  refine RS.joinV 3 8 (.bool (decide ((1 ≤ a0_n) ∧ (a0_n ≤ 128)))) [(2, _)] ⟨rfl, trivial⟩ ?_ ?_
  · refine RS.p (Pu.assign rfl) rfl rfl ?_
    refine RS.nil (hK2 _ _ ?_)
    obtain rfl := Option.some.inj H
    refine T.retTo (by with_reducible ((repeat (first | apply RetTo.seq | apply RetTo.blk)); exact RetTo.refl _)) (Cont.ret1 rfl rfl fun w' s => ?_)
    exact ⟨rfl, s.ext⟩
  · intro hJ2
    refine RS.splitP 5 rfl (fun hc1 => ?_) (fun hc1 => ?_)
    · refine RS.p (Pu.move rfl) rfl rfl ?_
      refine RS.p (Pu.bin rfl rfl rfl) rfl rfl ?_
      refine RS.p (Pu.pickT rfl rfl) rfl rfl ?_
      exact hJ2 _ _ ⟨dAndT hc1, rfl, trivial⟩ (fun w s => s)
    · refine RS.no rfl rfl ?_
      refine RS.no rfl rfl ?_
      refine RS.p (Pu.pickF rfl rfl) rfl rfl ?_
      exact hJ2 _ _ ⟨dAndF hc1, rfl, trivial⟩ (fun w s => s)
theorem sector_May_walk (a0_w : Int) (a1_h : Int) (w : World) {r : Bool} (H : sector_May a0_w a1_h = some r) : Calls Try.prog 58 #[.int .i64 a0_w, .int .i64 a1_h] w fun e w' => e = .returned (.bool r) ∧ Ext w w' := by
  unfold sector_May at H
  refine T.enter (args := [_, _]) (S := Sat w []) Try.func58 rfl rfl (Sat.start w) ?_
  refine T.seq fun K1 hK1 => ?_
  refine T.region ?_
  refine RS.p (Pu.assign rfl) rfl rfl ?_
  refine RS.nil (hK1 _ _ ?_)
  refine T.seq fun K2 hK2 => ?_
  refine T.region ?_
  refine RS.p (Pu.move rfl) rfl rfl ?_
  obtain ⟨x1, hx1, H⟩ := bindE H
  refine RS.q (Qt.call ent69 rfl fun w s => ground_Side_walk a0_w w  hx1) rfl rfl ?_
  refine RS.p (Pu.move rfl) rfl rfl ?_
  refine RS.joinB H 3 10 (fun b4 => .bool b4) [(4, _)] ⟨rfl, trivial⟩ ?_ ?_
  · intro b4 H
    refine RS.p (Pu.assign rfl) rfl rfl ?_
    refine RS.nil (hK2 _ _ ?_)
    obtain rfl := Option.some.inj H
    refine T.retTo (by with_reducible ((repeat (first | apply RetTo.seq | apply RetTo.blk)); exact RetTo.refl _)) (Cont.ret1 rfl rfl fun w' s => ?_)
    exact ⟨rfl, s.ext⟩
  · intro z5 H hJ3
    refine RS.split 7 rfl (fun hc2 => ?_) (fun hc2 => ?_)
    · have H := ifT hc2 H
      refine RS.p (Pu.move rfl) rfl rfl ?_
      obtain ⟨x6, hx6, H⟩ := bindE H
      refine RS.q (Qt.call ent69 rfl fun w s => ground_Side_walk a1_h w  hx6) rfl rfl ?_
      refine RS.p (Pu.pickT rfl rfl) rfl rfl ?_
      obtain rfl := Option.some.inj H
      exact hJ3 _ _ ⟨rfl, rfl, trivial⟩ (fun w s => s)
    · have H := ifB hc2 H
      refine RS.no rfl rfl ?_
      refine RS.no rfl rfl ?_
      refine RS.p (Pu.pickF rfl rfl) rfl rfl ?_
      obtain rfl := Option.some.inj H
      exact hJ3 _ _ ⟨rfl, rfl, trivial⟩ (fun w s => s)
theorem sector_across_walk (a0_n : Int) (w : World) {r : Int} (H : sector_across a0_n = some r) : Calls Try.prog 60 #[.int .i64 a0_n] w fun e w' => e = .returned (.int .i64 r) ∧ Ext w w' := by
  unfold sector_across at H
  refine T.enter (args := [_]) (S := Sat w []) Try.func60 rfl rfl (Sat.start w) ?_
  refine T.seq fun K1 hK1 => ?_
  refine T.region ?_
  refine RS.p (Pu.assign rfl) rfl rfl ?_
  refine RS.nil (hK1 _ _ ?_)
  refine T.seq fun K2 hK2 => ?_
  refine T.region ?_
  refine RS.p (Pu.move rfl) rfl rfl ?_
  obtain ⟨g1, H⟩ := gdE H
  refine RS.p (Pu.addS rfl rfl g1) rfl rfl ?_
  obtain ⟨g2, H⟩ := gdE H
  refine RS.p (Pu.subS rfl rfl g2) rfl rfl ?_
  obtain ⟨g3, H⟩ := gdE H
  refine RS.p (Pu.quoN rfl rfl ⟨g3.1, g3.2, by decide⟩) rfl rfl ?_
  refine RS.p (Pu.assign rfl) rfl rfl ?_
  refine RS.nil (hK2 _ _ (T.conseq (fr' := [(2, _)]) ?_ ⟨rfl, trivial⟩ (fun _ s => s)))
  obtain rfl := Option.some.inj H
  refine T.retTo (by with_reducible ((repeat (first | apply RetTo.seq | apply RetTo.blk)); exact RetTo.refl _)) (Cont.ret1 rfl rfl fun w' s => ?_)
  exact ⟨rfl, s.ext⟩
theorem sector_Count_walk (a0_w : Int) (a1_h : Int) (w : World) {r : Int × Int} (H : sector_Count a0_w a1_h = some r) : Calls Try.prog 33 #[.int .i64 a0_w, .int .i64 a1_h] w fun e w' => e = .returned (.tuple #[.int .i64 r.1, .int .i64 r.2]) ∧ Ext w w' := by
  unfold sector_Count at H
  refine T.enter (args := [_, _]) (S := Sat w []) Try.func33 rfl rfl (Sat.start w) ?_
  refine T.seq fun K1 hK1 => ?_
  refine T.region ?_
  refine RS.p (Pu.assign rfl) rfl rfl ?_
  refine RS.p (Pu.assign rfl) rfl rfl ?_
  refine RS.nil (hK1 _ _ ?_)
  refine T.seq fun K2 hK2 => ?_
  refine T.seq fun K3 hK3 => ?_
  refine T.region ?_
  refine RS.p (Pu.move rfl) rfl rfl ?_
  refine RS.p (Pu.move rfl) rfl rfl ?_
  obtain ⟨x1, hx1, H⟩ := bindE H
  refine RS.q (Qt.call ent58 rfl fun w s => sector_May_walk a0_w a1_h w  hx1) rfl rfl ?_
  refine RS.p (Pu.not rfl) rfl rfl ?_
  refine RS.nil (hK3 _ _ ?_)
  refine T.cond rfl (fun hc2 => ?_) (fun hc2 => ?_)
  · have H := ifT hc2 H
    refine T.conseq (fr' := []) ?_ trivial (fun _ s => s)
    refine T.seq fun K4 hK4 => ?_
    refine T.region ?_
    refine RS.p (Pu.assign rfl) rfl rfl ?_
    refine RS.p (Pu.assign rfl) rfl rfl ?_
    refine RS.nil (hK4 _ _ ?_)
    obtain rfl := Option.some.inj H
    refine T.retTo (by with_reducible ((repeat (first | apply RetTo.seq | apply RetTo.blk)); exact RetTo.refl _)) (Cont.ret2 rfl rfl rfl fun w' s => ?_)
    exact ⟨rfl, s.ext⟩
  · have H := ifB hc2 H
    refine T.skip (hK2 _ _ (T.conseq (fr' := [(0, _), (1, _)]) ?_ ⟨rfl, rfl, trivial⟩ (fun _ s => s)))
    refine T.seq fun K5 hK5 => ?_
    refine T.region ?_
    refine RS.p (Pu.move rfl) rfl rfl ?_
    obtain ⟨x3, hx3, H⟩ := bindE H
    refine RS.q (Qt.call ent60 rfl fun w s => sector_across_walk a0_w w  hx3) rfl rfl ?_
    refine RS.p (Pu.move rfl) rfl rfl ?_
    obtain ⟨x4, hx4, H⟩ := bindE H
    refine RS.q (Qt.call ent60 rfl fun w s => sector_across_walk a1_h w  hx4) rfl rfl ?_
    obtain ⟨g5, H⟩ := gdE H
    refine RS.p (Pu.mulS rfl rfl g5) rfl rfl ?_
    refine RS.p (Pu.assign rfl) rfl rfl ?_
    refine RS.p (Pu.assign rfl) rfl rfl ?_
    refine RS.nil (hK5 _ _ (T.conseq (fr' := [(4, _), (5, _)]) ?_ ⟨rfl, rfl, trivial⟩ (fun _ s => s)))
    obtain rfl := Option.some.inj H
    refine T.retTo (by with_reducible ((repeat (first | apply RetTo.seq | apply RetTo.blk)); exact RetTo.refl _)) (Cont.ret2 rfl rfl rfl fun w' s => ?_)
    exact ⟨rfl, s.ext⟩
theorem sector_At_walk (a0_w : Int) (a1_t : Int) (w : World) {r : Int} (H : sector_At a0_w a1_t = some r) : Calls Try.prog 62 #[.int .i64 a0_w, .int .i64 a1_t] w fun e w' => e = .returned (.int .i64 r) ∧ Ext w w' := by
  unfold sector_At at H
  refine T.enter (args := [_, _]) (S := Sat w []) Try.func62 rfl rfl (Sat.start w) ?_
  refine T.seq fun K1 hK1 => ?_
  refine T.region ?_
  refine RS.p (Pu.assign rfl) rfl rfl ?_
  refine RS.nil (hK1 _ _ ?_)
  refine T.seq fun K2 hK2 => ?_
  refine T.drawn (fun _ => True) [(0, .pu), (1, .pu), (2, .pu), (3, .pu), (4, .pu), (5, .rd), (6, .pu), (7, .pu), (8, .pu), (9, .pu), (10, .pu), (11, .pu), (12, .pu)] mixed (ClE.sat _ _) (by kernel_rfl) ?_
  refine RD.p (fun _ _ => trivial) rfl (Pu.move rfl) rfl rfl ?_
  refine RD.p (fun _ _ => trivial) rfl (Pu.move rfl) rfl rfl ?_
  obtain ⟨g1, H⟩ := gdE H
  refine RD.p (fun _ _ => trivial) rfl (Pu.remN rfl rfl (and3 g1)) rfl rfl ?_
  obtain ⟨g2, H⟩ := gdE H
  refine RD.p (fun _ _ => trivial) rfl (Pu.quoN rfl rfl ⟨g2.1, g2.2, by decide⟩) rfl rfl ?_
  refine RD.p (fun _ _ => trivial) rfl (Pu.move rfl) rfl rfl ?_
  obtain ⟨x3, hx3, H⟩ := bindE H
  refine RD.q (fun _ _ => trivial) rfl (Qt.call ent60 rfl fun w s => sector_across_walk a0_w w  hx3) rfl rfl ?_
  refine RD.p (fun _ _ => trivial) rfl (Pu.move rfl) rfl rfl ?_
  refine RD.p (fun _ _ => trivial) rfl (Pu.move rfl) rfl rfl ?_
  obtain ⟨g4, H⟩ := gdE H
  refine RD.p (fun _ _ => trivial) rfl (Pu.quoN rfl rfl g4) rfl rfl ?_
  obtain ⟨g5, H⟩ := gdE H
  refine RD.p (fun _ _ => trivial) rfl (Pu.quoN rfl rfl ⟨g5.1, g5.2, by decide⟩) rfl rfl ?_
  obtain ⟨g6, H⟩ := gdE H
  refine RD.p (fun _ _ => trivial) rfl (Pu.mulS rfl rfl g6) rfl rfl ?_
  obtain ⟨g7, H⟩ := gdE H
  refine RD.p (fun _ _ => trivial) rfl (Pu.addS rfl rfl g7) rfl rfl ?_
  refine RD.p (fun _ _ => trivial) rfl (Pu.assign rfl) rfl rfl ?_
  refine RD.nil (hK2 _ _ (T.conseq (fr' := [(4, _)]) ?_ ⟨rfl, trivial⟩ (fun _ s => s)))
  obtain rfl := Option.some.inj H
  refine T.retTo (by with_reducible ((repeat (first | apply RetTo.seq | apply RetTo.blk)); exact RetTo.refl _)) (Cont.ret1 rfl rfl fun w' s => ?_)
  exact ⟨rfl, s.ext⟩
theorem sector_Of_walk (a0_w : Int) (a1_h : Int) (a2_t : Int) (w : World) {r : Int × Int} (H : sector_Of a0_w a1_h a2_t = some r) : Calls Try.prog 35 #[.int .i64 a0_w, .int .i64 a1_h, .int .i64 a2_t] w fun e w' => e = .returned (.tuple #[.int .i64 r.1, .int .i64 r.2]) ∧ Ext w w' := by
  unfold sector_Of at H
  refine T.enter (args := [_, _, _]) (S := Sat w []) Try.func35 rfl rfl (Sat.start w) ?_
  refine T.seq fun K1 hK1 => ?_
  refine T.region ?_
  refine RS.p (Pu.assign rfl) rfl rfl ?_
  refine RS.p (Pu.assign rfl) rfl rfl ?_
  refine RS.nil (hK1 _ _ ?_)
  refine T.seq fun K2 hK2 => ?_
  refine T.block ?_
  refine T.seq fun K3 hK3 => ?_
  refine T.region ?_
  refine RS.p (Pu.move rfl) rfl rfl ?_
  refine RS.p (Pu.move rfl) rfl rfl ?_
  obtain ⟨x1, hx1, H⟩ := bindE H
  refine RS.q (Qt.call ent58 rfl fun w s => sector_May_walk a0_w a1_h w  hx1) rfl rfl ?_
  refine RS.p (Pu.not rfl) rfl rfl ?_
  refine RS.p (Pu.assign rfl) rfl rfl ?_
  refine RS.nil (hK3 _ _ ?_)
  refine T.cond rfl (fun hc2 => ?_) (fun hc2 => ?_)
  · have H := ifT hc2 H
    refine T.conseq (fr' := []) ?_ trivial (fun _ s => s)
    refine T.seq fun K4 hK4 => ?_
    refine T.region ?_
    refine RS.p (Pu.assign rfl) rfl rfl ?_
    refine RS.p (Pu.assign rfl) rfl rfl ?_
    refine RS.nil (hK4 _ _ ?_)
    obtain rfl := Option.some.inj H
    refine T.retTo (by with_reducible ((repeat (first | apply RetTo.seq | apply RetTo.blk)); exact RetTo.refl _)) (Cont.ret2 rfl rfl rfl fun w' s => ?_)
    exact ⟨rfl, s.ext⟩
  · have H := ifB hc2 H
    refine T.conseq (fr' := [(0, _), (1, _), (2, _)]) ?_ ⟨rfl, rfl, rfl, trivial⟩ (fun _ s => s)
    refine T.seq fun K5 hK5 => ?_
    refine T.region ?_
    refine RS.p (Pu.move rfl) rfl rfl ?_
    refine RS.p (Pu.bin rfl rfl rfl) rfl rfl ?_
    refine RS.p (Pu.move rfl) rfl rfl ?_
    obtain ⟨g5, H⟩ := gdE H
    refine RS.joinV 6 22 (.bool (decide ((a2_t < 0) ∨ ((a0_w * a1_h) ≤ a2_t)))) [(0, _), (2, _)] ⟨rfl, rfl, trivial⟩ ?_ ?_
    · refine RS.p (Pu.assign rfl) rfl rfl ?_
      refine RS.nil (hK5 _ _ ?_)
      refine T.condP rfl (fun hc6 => ?_) (fun hc6 => ?_)
      · have H := ifT hc6 H
        refine T.conseq (fr' := []) ?_ trivial (fun _ s => s)
        refine T.seq fun K6 hK6 => ?_
        refine T.region ?_
        refine RS.p (Pu.assign rfl) rfl rfl ?_
        refine RS.p (Pu.assign rfl) rfl rfl ?_
        refine RS.nil (hK6 _ _ ?_)
        obtain rfl := Option.some.inj H
        refine T.retTo (by with_reducible ((repeat (first | apply RetTo.seq | apply RetTo.blk)); exact RetTo.refl _)) (Cont.ret2 rfl rfl rfl fun w' s => ?_)
        exact ⟨rfl, s.ext⟩
      · have H := ifF hc6 H
        refine T.skip (hK2 _ _ ?_)
        refine T.seq fun K7 hK7 => ?_
        refine T.region ?_
        refine RS.p (Pu.move rfl) rfl rfl ?_
        refine RS.p (Pu.move rfl) rfl rfl ?_
        obtain ⟨x7, hx7, H⟩ := bindE H
        refine RS.q (Qt.call ent62 rfl fun w s => sector_At_walk a0_w a2_t w  hx7) rfl rfl ?_
        refine RS.p (Pu.assign rfl) rfl rfl ?_
        refine RS.p (Pu.assign rfl) rfl rfl ?_
        refine RS.nil (hK7 _ _ (T.conseq (fr' := [(6, _), (7, _)]) ?_ ⟨rfl, rfl, trivial⟩ (fun _ s => s)))
        obtain rfl := Option.some.inj H
        refine T.retTo (by with_reducible ((repeat (first | apply RetTo.seq | apply RetTo.blk)); exact RetTo.refl _)) (Cont.ret2 rfl rfl rfl fun w' s => ?_)
        exact ⟨rfl, s.ext⟩
    · intro hJ4
      refine RS.splitP 16 rfl (fun hc3 => ?_) (fun hc3 => ?_)
      · refine RS.no rfl rfl ?_
        refine RS.no rfl rfl ?_
        refine RS.no rfl rfl ?_
        refine RS.no rfl rfl ?_
        refine RS.no rfl rfl ?_
        refine RS.p (Pu.pickT rfl rfl) rfl rfl ?_
        exact hJ4 _ _ ⟨dOrT hc3, rfl, rfl, trivial⟩ (fun w s => s)
      · refine RS.p (Pu.move rfl) rfl rfl ?_
        refine RS.p (Pu.move rfl) rfl rfl ?_
        refine RS.p (Pu.move rfl) rfl rfl ?_
        refine RS.p (Pu.mulS rfl rfl (g5 hc3)) rfl rfl ?_
        refine RS.p (Pu.bin rfl rfl rfl) rfl rfl ?_
        refine RS.p (Pu.pickF rfl rfl) rfl rfl ?_
        exact hJ4 _ _ ⟨dOrF hc3, rfl, rfl, trivial⟩ (fun w s => s)
theorem throngref0_EqNumbers_walk (a0_a : List Int) (a1_b : List Int) (w : World) {v0 v1 : Value} (h0 : R (hpOf w) a0_a [v0]) (h1 : R (hpOf w) a1_b [v1]) {r : Bool} (H : throngref0_EqNumbers a0_a a1_b = some r) : Calls Try.prog 22 #[v0, v1] w fun e w' => e = .returned (.bool r) ∧ Ext w w' := by
  have hm0 := R_max h0
  obtain ⟨p0, c0, rfl⟩ := R_form h0
  have hm1 := R_max h1
  obtain ⟨p1, c1, rfl⟩ := R_form h1
  unfold throngref0_EqNumbers at H
  refine T.enter (args := [_, _]) (S := Sat w []) Try.func22 rfl rfl (Sat.start w) ?_
  refine T.seq fun K1 hK1 => ?_
  refine T.region ?_
  refine RS.p (Pu.assign rfl) rfl rfl ?_
  refine RS.nil (hK1 _ _ ?_)
  refine T.seq fun K2 hK2 => ?_
  refine T.seq fun K3 hK3 => ?_
  refine T.region ?_
  refine RS.p (Pu.move rfl) rfl rfl ?_
  refine RS.p (Pu.lenSl sl26 rfl) rfl rfl ?_
  refine RS.p (Pu.move rfl) rfl rfl ?_
  refine RS.p (Pu.lenSl sl26 rfl) rfl rfl ?_
  refine RS.p (Pu.bin rfl rfl rfl) rfl rfl ?_
  refine RS.nil (hK3 _ _ ?_)
  refine T.condP rfl (fun hc1 => ?_) (fun hc1 => ?_)
  · have H := ifT hc1 H
    refine T.conseq (fr' := []) ?_ trivial (fun _ s => s)
    refine T.seq fun K4 hK4 => ?_
    refine T.region ?_
    refine RS.p (Pu.assign rfl) rfl rfl ?_
    refine RS.nil (hK4 _ _ ?_)
    obtain rfl := Option.some.inj H
    refine T.retTo (by with_reducible ((repeat (first | apply RetTo.seq | apply RetTo.blk)); exact RetTo.refl _)) (Cont.ret1 rfl rfl fun w' s => ?_)
    exact ⟨rfl, s.ext⟩
  · have H := ifF hc1 H
    refine T.skip (hK2 _ _ (T.conseq (fr' := [(0, _), (1, _)]) ?_ ⟨rfl, rfl, trivial⟩ (fun _ s => s)))
    refine T.seq fun K5 hK5 => ?_
    refine T.seq fun K6 hK6 => ?_
    refine T.region ?_
    refine RS.p (Pu.assign rfl) rfl rfl ?_
    refine RS.nil (hK6 _ _ ?_)
    refine T.joinE (σ := Unit) (γ := Unit) H Ex.go [] trivial (fun _ _ => []) (fun _ _ => Sat w []) ?_ ?_
    · rintro ⟨⟩ ⟨⟩ H
      try dsimp only [Ex.then] at H
      refine Cont.conseq (fr' := []) ?_ trivial (fun _ s => s)
      refine id (hK5 _ _ ?_)
      refine T.seq fun K7 hK7 => ?_
      refine T.region ?_
      refine RS.p (Pu.assign rfl) rfl rfl ?_
      refine RS.nil (hK7 _ _ ?_)
      obtain rfl := Option.some.inj H
      refine T.retTo (by with_reducible ((repeat (first | apply RetTo.seq | apply RetTo.blk)); exact RetTo.refl _)) (Cont.ret1 rfl rfl fun w' s => ?_)
      exact ⟨rfl, s.ext⟩
    · intro z2 hz2 HX2 hJ2
      refine T.block ?_
      refine T.loopA (γ := Unit) hz2 [(0, _), (1, _)] (fun v3 _ => [(5, .int .i64 v3)]) (fun v3 _ => Sat w []) () ⟨rfl, rfl, trivial⟩ ⟨rfl, trivial⟩ (fun w s => s) ?_
      rintro v3 ⟨⟩ y4 H hd2 KL2 hL2
      try dsimp only [Ex.then] at H
      refine T.conseq (fr' := [(5, _), (0, _), (1, _)]) ?_ ⟨rfl, rfl, rfl, trivial⟩ (fun _ s => s)
      refine T.seq fun K8 hK8 => ?_
      refine T.seq fun K9 hK9 => ?_
      refine T.region ?_
      refine RS.p (Pu.move rfl) rfl rfl ?_
      refine RS.p (Pu.move rfl) rfl rfl ?_
      refine RS.p (Pu.lenSl sl26 rfl) rfl rfl ?_
      refine RS.p (Pu.bin rfl rfl rfl) rfl rfl ?_
      refine RS.nil (hK9 _ _ ?_)
      refine T.condP rfl (fun hc5 => ?_) (fun hc5 => ?_)
      · have H := ifT hc5 H
        refine T.skip (hK8 _ _ (T.conseq (fr' := [(0, _), (1, _), (5, _)]) ?_ ⟨rfl, rfl, rfl, trivial⟩ (fun _ s => s)))
        refine T.seq fun K10 hK10 => ?_
        refine T.block ?_
        refine T.seq fun K11 hK11 => ?_
        refine T.drawn (fun _ => True) [(0, .pu), (1, .pu), (2, .pu), (3, .rd), (4, .pu), (5, .pu), (6, .pu), (7, .rd), (8, .pu)] mixed (ClE.sat _ _) (by kernel_rfl) ?_
        refine RD.p (fun _ _ => trivial) rfl (Pu.move rfl) rfl rfl ?_
        refine RD.p (fun _ _ => trivial) rfl (Pu.move rfl) rfl rfl ?_
        obtain ⟨g6, H⟩ := gdE H
        obtain ⟨bl7, ol8, rfl⟩ := R_ptr h0 (ne_of_pos (pos_of g6))
        refine RD.p (fun _ _ => trivial) rfl (Pu.indexSl sl26 rfl rfl g6) rfl rfl ?_
        refine RD.q (fun _ _ => trivial) rfl (Qt.ld0 (α := Int) (Rd.base h0) ty3 rfl rfl g6 (by rintro _ _ rfl; rfl)) rfl rfl ?_
        refine RD.p (fun _ _ => trivial) rfl (Pu.move rfl) rfl rfl ?_
        refine RD.p (fun _ _ => trivial) rfl (Pu.move rfl) rfl rfl ?_
        obtain ⟨g9, H⟩ := gdE H
        obtain ⟨bl10, ol11, rfl⟩ := R_ptr h1 (ne_of_pos (pos_of g9))
        refine RD.p (fun _ _ => trivial) rfl (Pu.indexSl sl26 rfl rfl g9) rfl rfl ?_
        refine RD.q (fun _ _ => trivial) rfl (Qt.ld0 (α := Int) (Rd.base h1) ty3 rfl rfl g9 (by rintro _ _ rfl; rfl)) rfl rfl ?_
        refine RD.p (fun _ _ => trivial) rfl (Pu.bin rfl rfl rfl) rfl rfl ?_
        refine RD.nil (hK11 _ _ ?_)
        refine T.condP rfl (fun hc12 => ?_) (fun hc12 => ?_)
        · have H := ifT hc12 H
          refine T.conseq (fr' := []) ?_ trivial (fun _ s => s)
          refine T.seq fun K12 hK12 => ?_
          refine T.region ?_
          refine RS.p (Pu.assign rfl) rfl rfl ?_
          refine RS.nil (hK12 _ _ ?_)
          obtain rfl := hd2 _ H
          have H := HX2
          obtain rfl := Option.some.inj H
          refine T.retTo (by with_reducible ((repeat (first | apply RetTo.seq | apply RetTo.blk)); exact RetTo.refl _)) (Cont.ret1 rfl rfl fun w' s => ?_)
          exact ⟨rfl, s.ext⟩
        · have H := ifF hc12 H
          refine T.skip (hK10 _ _ (T.conseq (fr' := [(0, _), (1, _), (5, _)]) ?_ ⟨rfl, rfl, rfl, trivial⟩ (fun _ s => s)))
          refine T.region ?_
          refine RS.p (Pu.move rfl) rfl rfl ?_
          obtain ⟨g13, H⟩ := gdE H
          refine RS.p (Pu.addS rfl rfl g13) rfl rfl ?_
          refine RS.p (Pu.assign rfl) rfl rfl ?_
          refine RS.nil (hL2 _ _ (v3 + 1) () H ⟨rfl, rfl, trivial⟩ ⟨rfl, trivial⟩ (fun w s => s))
      · have H := ifF hc5 H
        obtain rfl := hd2 _ H
        refine T.exitTo (by with_reducible (repeat (first | exact ExTo.here | exact ExTo.hereN | exact ExTo.deep (by repeat (first | exact NmTo.seq | apply NmTo.blk)) | apply ExTo.seq | refine ExTo.past (by decide) ?_))) (hJ2 _ _ () () HX2 trivial trivial (fun w s => s))
theorem throngref0_EqBools_walk (a0_a : List Bool) (a1_b : List Bool) (w : World) {v0 v1 : Value} (h0 : R (hpOf w) a0_a [v0]) (h1 : R (hpOf w) a1_b [v1]) {r : Bool} (H : throngref0_EqBools a0_a a1_b = some r) : Calls Try.prog 29 #[v0, v1] w fun e w' => e = .returned (.bool r) ∧ Ext w w' := by
  have hm0 := R_max h0
  obtain ⟨p0, c0, rfl⟩ := R_form h0
  have hm1 := R_max h1
  obtain ⟨p1, c1, rfl⟩ := R_form h1
  unfold throngref0_EqBools at H
  refine T.enter (args := [_, _]) (S := Sat w []) Try.func29 rfl rfl (Sat.start w) ?_
  refine T.seq fun K1 hK1 => ?_
  refine T.region ?_
  refine RS.p (Pu.assign rfl) rfl rfl ?_
  refine RS.nil (hK1 _ _ ?_)
  refine T.seq fun K2 hK2 => ?_
  refine T.seq fun K3 hK3 => ?_
  refine T.region ?_
  refine RS.p (Pu.move rfl) rfl rfl ?_
  refine RS.p (Pu.lenSl sl39 rfl) rfl rfl ?_
  refine RS.p (Pu.move rfl) rfl rfl ?_
  refine RS.p (Pu.lenSl sl39 rfl) rfl rfl ?_
  refine RS.p (Pu.bin rfl rfl rfl) rfl rfl ?_
  refine RS.nil (hK3 _ _ ?_)
  refine T.condP rfl (fun hc1 => ?_) (fun hc1 => ?_)
  · have H := ifT hc1 H
    refine T.conseq (fr' := []) ?_ trivial (fun _ s => s)
    refine T.seq fun K4 hK4 => ?_
    refine T.region ?_
    refine RS.p (Pu.assign rfl) rfl rfl ?_
    refine RS.nil (hK4 _ _ ?_)
    obtain rfl := Option.some.inj H
    refine T.retTo (by with_reducible ((repeat (first | apply RetTo.seq | apply RetTo.blk)); exact RetTo.refl _)) (Cont.ret1 rfl rfl fun w' s => ?_)
    exact ⟨rfl, s.ext⟩
  · have H := ifF hc1 H
    refine T.skip (hK2 _ _ (T.conseq (fr' := [(0, _), (1, _)]) ?_ ⟨rfl, rfl, trivial⟩ (fun _ s => s)))
    refine T.seq fun K5 hK5 => ?_
    refine T.seq fun K6 hK6 => ?_
    refine T.region ?_
    refine RS.p (Pu.assign rfl) rfl rfl ?_
    refine RS.nil (hK6 _ _ ?_)
    refine T.joinE (σ := Unit) (γ := Unit) H Ex.go [] trivial (fun _ _ => []) (fun _ _ => Sat w []) ?_ ?_
    · rintro ⟨⟩ ⟨⟩ H
      try dsimp only [Ex.then] at H
      refine Cont.conseq (fr' := []) ?_ trivial (fun _ s => s)
      refine id (hK5 _ _ ?_)
      refine T.seq fun K7 hK7 => ?_
      refine T.region ?_
      refine RS.p (Pu.assign rfl) rfl rfl ?_
      refine RS.nil (hK7 _ _ ?_)
      obtain rfl := Option.some.inj H
      refine T.retTo (by with_reducible ((repeat (first | apply RetTo.seq | apply RetTo.blk)); exact RetTo.refl _)) (Cont.ret1 rfl rfl fun w' s => ?_)
      exact ⟨rfl, s.ext⟩
    · intro z2 hz2 HX2 hJ2
      refine T.block ?_
      refine T.loopA (γ := Unit) hz2 [(0, _), (1, _)] (fun v3 _ => [(5, .int .i64 v3)]) (fun v3 _ => Sat w []) () ⟨rfl, rfl, trivial⟩ ⟨rfl, trivial⟩ (fun w s => s) ?_
      rintro v3 ⟨⟩ y4 H hd2 KL2 hL2
      try dsimp only [Ex.then] at H
      refine T.conseq (fr' := [(5, _), (0, _), (1, _)]) ?_ ⟨rfl, rfl, rfl, trivial⟩ (fun _ s => s)
      refine T.seq fun K8 hK8 => ?_
      refine T.seq fun K9 hK9 => ?_
      refine T.region ?_
      refine RS.p (Pu.move rfl) rfl rfl ?_
      refine RS.p (Pu.move rfl) rfl rfl ?_
      refine RS.p (Pu.lenSl sl39 rfl) rfl rfl ?_
      refine RS.p (Pu.bin rfl rfl rfl) rfl rfl ?_
      refine RS.nil (hK9 _ _ ?_)
      refine T.condP rfl (fun hc5 => ?_) (fun hc5 => ?_)
      · have H := ifT hc5 H
        refine T.skip (hK8 _ _ (T.conseq (fr' := [(0, _), (1, _), (5, _)]) ?_ ⟨rfl, rfl, rfl, trivial⟩ (fun _ s => s)))
        refine T.seq fun K10 hK10 => ?_
        refine T.block ?_
        refine T.seq fun K11 hK11 => ?_
        refine T.drawn (fun _ => True) [(0, .pu), (1, .pu), (2, .pu), (3, .rd), (4, .pu), (5, .pu), (6, .pu), (7, .rd), (8, .pu)] mixed (ClE.sat _ _) (by kernel_rfl) ?_
        refine RD.p (fun _ _ => trivial) rfl (Pu.move rfl) rfl rfl ?_
        refine RD.p (fun _ _ => trivial) rfl (Pu.move rfl) rfl rfl ?_
        obtain ⟨g6, H⟩ := gdE H
        obtain ⟨bl7, ol8, rfl⟩ := R_ptr h0 (ne_of_pos (pos_of g6))
        refine RD.p (fun _ _ => trivial) rfl (Pu.indexSl sl39 rfl rfl g6) rfl rfl ?_
        refine RD.q (fun _ _ => trivial) rfl (Qt.ld0 (α := Bool) (Rd.base h0) ty4 rfl rfl g6 (by rintro _ _ rfl; rfl)) rfl rfl ?_
        refine RD.p (fun _ _ => trivial) rfl (Pu.move rfl) rfl rfl ?_
        refine RD.p (fun _ _ => trivial) rfl (Pu.move rfl) rfl rfl ?_
        obtain ⟨g9, H⟩ := gdE H
        obtain ⟨bl10, ol11, rfl⟩ := R_ptr h1 (ne_of_pos (pos_of g9))
        refine RD.p (fun _ _ => trivial) rfl (Pu.indexSl sl39 rfl rfl g9) rfl rfl ?_
        refine RD.q (fun _ _ => trivial) rfl (Qt.ld0 (α := Bool) (Rd.base h1) ty4 rfl rfl g9 (by rintro _ _ rfl; rfl)) rfl rfl ?_
        refine RD.p (fun _ _ => trivial) rfl (Pu.neB ul4 rfl rfl) rfl rfl ?_
        refine RD.nil (hK11 _ _ ?_)
        refine T.condP rfl (fun hc12 => ?_) (fun hc12 => ?_)
        · have H := ifT hc12 H
          refine T.conseq (fr' := []) ?_ trivial (fun _ s => s)
          refine T.seq fun K12 hK12 => ?_
          refine T.region ?_
          refine RS.p (Pu.assign rfl) rfl rfl ?_
          refine RS.nil (hK12 _ _ ?_)
          obtain rfl := hd2 _ H
          have H := HX2
          obtain rfl := Option.some.inj H
          refine T.retTo (by with_reducible ((repeat (first | apply RetTo.seq | apply RetTo.blk)); exact RetTo.refl _)) (Cont.ret1 rfl rfl fun w' s => ?_)
          exact ⟨rfl, s.ext⟩
        · have H := ifF hc12 H
          refine T.skip (hK10 _ _ (T.conseq (fr' := [(0, _), (1, _), (5, _)]) ?_ ⟨rfl, rfl, rfl, trivial⟩ (fun _ s => s)))
          refine T.region ?_
          refine RS.p (Pu.move rfl) rfl rfl ?_
          obtain ⟨g13, H⟩ := gdE H
          refine RS.p (Pu.addS rfl rfl g13) rfl rfl ?_
          refine RS.p (Pu.assign rfl) rfl rfl ?_
          refine RS.nil (hL2 _ _ (v3 + 1) () H ⟨rfl, rfl, trivial⟩ ⟨rfl, trivial⟩ (fun w s => s))
      · have H := ifF hc5 H
        obtain rfl := hd2 _ H
        refine T.exitTo (by with_reducible (repeat (first | exact ExTo.here | exact ExTo.hereN | exact ExTo.deep (by repeat (first | exact NmTo.seq | apply NmTo.blk)) | apply ExTo.seq | refine ExTo.past (by decide) ?_))) (hJ2 _ _ () () HX2 trivial trivial (fun w s => s))
theorem throngref0_CopyNumbers_walk (a0_l : List Int) (w : World) {v0 : Value} (h0 : R (hpOf w) a0_l [v0]) {r : List Int} (H : throngref0_CopyNumbers a0_l = some r) : Calls Try.prog 37 #[v0] w fun e w' => ∃ q1 : (Option Nat × Nat), e = .returned (rowV q1 r.length) ∧ Sat w [row nilH 3 (rowV q1 r.length) r] w' := by
  have hm0 := R_max h0
  obtain ⟨p0, c0, rfl⟩ := R_form h0
  unfold throngref0_CopyNumbers at H
  refine T.enter (args := [_]) (S := Sat w []) Try.func37 rfl rfl (Sat.start w) ?_
  refine T.seq fun K1 hK1 => ?_
  refine T.region ?_
  refine RS.p (Pu.assign rfl) rfl rfl ?_
  refine RS.nil (hK1 _ _ ?_)
  refine T.seq fun K2 hK2 => ?_
  refine T.region ?_
  refine RS.p (Pu.assign rfl) rfl rfl ?_
  refine RS.nil (hK2 _ _ ?_)
  refine T.seq fun K3 hK3 => ?_
  refine T.seq fun K4 hK4 => ?_
  refine T.region ?_
  refine RS.p (Pu.assign rfl) rfl rfl ?_
  refine RS.nil (hK4 _ _ ?_)
  refine T.joinE (σ := List Int) (γ := Option Nat × Nat) H (fun s => s) [] trivial (fun v2 q3 => [(3, rowV q3 v2.length)]) (fun v2 q3 => Sat w [row nilH 3 (rowV q3 v2.length) v2]) ?_ ?_
  · rintro v2 q3 H
    try dsimp only [Ex.then] at H
    refine Cont.conseq (fr' := [(3, _)]) ?_ ⟨rfl, trivial⟩ (fun _ s => s)
    refine id (hK3 _ _ ?_)
    refine T.seq fun K5 hK5 => ?_
    refine T.region ?_
    refine RS.p (Pu.move rfl) rfl rfl ?_
    refine RS.p (Pu.assign rfl) rfl rfl ?_
    refine RS.nil (hK5 _ _ ?_)
    obtain rfl := Option.some.inj H
    refine T.retTo (by with_reducible ((repeat (first | apply RetTo.seq | apply RetTo.blk)); exact RetTo.refl _)) (Cont.ret1 rfl rfl fun w' s => ?_)
    exact ⟨q3, rfl, s.pick [0] (by decide) rfl⟩
  · intro z1 hz1 HX1 hJ1
    refine T.block ?_
    refine T.loopA (γ := (Option Nat × Nat)) hz1 [(0, _)] (fun (l4, v6) q5 => [(3, rowV q5 l4.length), (4, .int .i64 v6)]) (fun (l4, v6) q5 => Sat w [row nilH 3 (rowV q5 l4.length) l4]) (none, 0) ⟨rfl, trivial⟩ ⟨rfl, rfl, trivial⟩ (fun w s => (s.nilRow (α := Int) 3).pick [0] (by decide) rfl) ?_
    rintro ⟨l4, v6⟩ q5 y7 H hd1 KL1 hL1
    try dsimp only [Ex.then] at H
    refine T.conseq (fr' := [(3, _), (4, _), (0, _)]) ?_ ⟨rfl, rfl, rfl, trivial⟩ (fun _ s => s)
    refine T.seq fun K6 hK6 => ?_
    refine T.seq fun K7 hK7 => ?_
    refine T.region ?_
    refine RS.p (Pu.move rfl) rfl rfl ?_
    refine RS.p (Pu.move rfl) rfl rfl ?_
    refine RS.p (Pu.lenSl sl26 rfl) rfl rfl ?_
    refine RS.p (Pu.bin rfl rfl rfl) rfl rfl ?_
    refine RS.nil (hK7 _ _ ?_)
    refine T.condP rfl (fun hc8 => ?_) (fun hc8 => ?_)
    · have H := ifT hc8 H
      refine T.skip (hK6 _ _ (T.conseq (fr' := [(0, _), (3, _), (4, _)]) ?_ ⟨rfl, rfl, rfl, trivial⟩ (fun _ s => s)))
      refine T.seq fun K8 hK8 => ?_
      refine T.block ?_
      refine T.region ?_
      refine RS.p (Pu.move rfl) rfl rfl ?_
      refine RS.p (Pu.move rfl) rfl rfl ?_
      refine RS.p (Pu.move rfl) rfl rfl ?_
      obtain ⟨g9, H⟩ := gdE H
      obtain ⟨bl10, ol11, rfl⟩ := R_ptr h0 (ne_of_pos (pos_of g9))
      refine RS.p (Pu.indexSl sl26 rfl rfl g9) rfl rfl ?_
      refine RS.q (Qt.ld0 (α := Int) (Rd.base h0) ty3 rfl rfl g9 (by rintro _ _ rfl; rfl)) rfl rfl ?_
      refine RS.solid (Sd.litS (cs := [_]) sl26 zr3 rfl rfl rfl rfl rfl) rfl rfl fun b12 => ?_
      obtain ⟨g14, H⟩ := gdE H
      refine RS.solid (Sd.app1c (α := Int) 0 1 (gi a0_l v6) rfl rfl (nilH_lt _) sl26 zr3 rfl rfl rfl rfl g14 (by decide)) rfl rfl fun q13 => ?_
      refine RS.p (Pu.assign rfl) rfl rfl ?_
      refine RS.nil (hK8 _ _ (T.conseq (fr' := [(0, _), (3, _), (4, _)]) ?_ ⟨rfl, rfl, rfl, trivial⟩ (fun _ s => s)))
      refine T.region ?_
      refine RS.p (Pu.move rfl) rfl rfl ?_
      obtain ⟨g15, H⟩ := gdE H
      refine RS.p (Pu.addS rfl rfl g15) rfl rfl ?_
      refine RS.p (Pu.assign rfl) rfl rfl ?_
      refine RS.nil (hL1 _ _ ((l4 ++ [(gi a0_l v6)]), (v6 + 1)) q13 H ⟨rfl, trivial⟩ ⟨rfl, rfl, trivial⟩ (fun w s => s.pick [0] (by decide) rfl))
    · have H := ifF hc8 H
      obtain rfl := hd1 _ H
      refine T.exitTo (by with_reducible (repeat (first | exact ExTo.here | exact ExTo.hereN | exact ExTo.deep (by repeat (first | exact NmTo.seq | apply NmTo.blk)) | apply ExTo.seq | refine ExTo.past (by decide) ?_))) (hJ1 _ _ l4 q5 HX1 trivial ⟨rfl, trivial⟩ (fun w s => s))
theorem throngref0_CopyBools_walk (a0_l : List Bool) (w : World) {v0 : Value} (h0 : R (hpOf w) a0_l [v0]) {r : List Bool} (H : throngref0_CopyBools a0_l = some r) : Calls Try.prog 26 #[v0] w fun e w' => ∃ q1 : (Option Nat × Nat), e = .returned (rowV q1 r.length) ∧ Sat w [row nilH 4 (rowV q1 r.length) r] w' := by
  have hm0 := R_max h0
  obtain ⟨p0, c0, rfl⟩ := R_form h0
  unfold throngref0_CopyBools at H
  refine T.enter (args := [_]) (S := Sat w []) Try.func26 rfl rfl (Sat.start w) ?_
  refine T.seq fun K1 hK1 => ?_
  refine T.region ?_
  refine RS.p (Pu.assign rfl) rfl rfl ?_
  refine RS.nil (hK1 _ _ ?_)
  refine T.seq fun K2 hK2 => ?_
  refine T.region ?_
  refine RS.p (Pu.assign rfl) rfl rfl ?_
  refine RS.nil (hK2 _ _ ?_)
  refine T.seq fun K3 hK3 => ?_
  refine T.seq fun K4 hK4 => ?_
  refine T.region ?_
  refine RS.p (Pu.assign rfl) rfl rfl ?_
  refine RS.nil (hK4 _ _ ?_)
  refine T.joinE (σ := List Bool) (γ := Option Nat × Nat) H (fun s => s) [] trivial (fun v2 q3 => [(3, rowV q3 v2.length)]) (fun v2 q3 => Sat w [row nilH 4 (rowV q3 v2.length) v2]) ?_ ?_
  · rintro v2 q3 H
    try dsimp only [Ex.then] at H
    refine Cont.conseq (fr' := [(3, _)]) ?_ ⟨rfl, trivial⟩ (fun _ s => s)
    refine id (hK3 _ _ ?_)
    refine T.seq fun K5 hK5 => ?_
    refine T.region ?_
    refine RS.p (Pu.move rfl) rfl rfl ?_
    refine RS.p (Pu.assign rfl) rfl rfl ?_
    refine RS.nil (hK5 _ _ ?_)
    obtain rfl := Option.some.inj H
    refine T.retTo (by with_reducible ((repeat (first | apply RetTo.seq | apply RetTo.blk)); exact RetTo.refl _)) (Cont.ret1 rfl rfl fun w' s => ?_)
    exact ⟨q3, rfl, s.pick [0] (by decide) rfl⟩
  · intro z1 hz1 HX1 hJ1
    refine T.block ?_
    refine T.loopA (γ := (Option Nat × Nat)) hz1 [(0, _)] (fun (l4, v6) q5 => [(3, rowV q5 l4.length), (4, .int .i64 v6)]) (fun (l4, v6) q5 => Sat w [row nilH 4 (rowV q5 l4.length) l4]) (none, 0) ⟨rfl, trivial⟩ ⟨rfl, rfl, trivial⟩ (fun w s => (s.nilRow (α := Bool) 4).pick [0] (by decide) rfl) ?_
    rintro ⟨l4, v6⟩ q5 y7 H hd1 KL1 hL1
    try dsimp only [Ex.then] at H
    refine T.conseq (fr' := [(3, _), (4, _), (0, _)]) ?_ ⟨rfl, rfl, rfl, trivial⟩ (fun _ s => s)
    refine T.seq fun K6 hK6 => ?_
    refine T.seq fun K7 hK7 => ?_
    refine T.region ?_
    refine RS.p (Pu.move rfl) rfl rfl ?_
    refine RS.p (Pu.move rfl) rfl rfl ?_
    refine RS.p (Pu.lenSl sl39 rfl) rfl rfl ?_
    refine RS.p (Pu.bin rfl rfl rfl) rfl rfl ?_
    refine RS.nil (hK7 _ _ ?_)
    refine T.condP rfl (fun hc8 => ?_) (fun hc8 => ?_)
    · have H := ifT hc8 H
      refine T.skip (hK6 _ _ (T.conseq (fr' := [(0, _), (3, _), (4, _)]) ?_ ⟨rfl, rfl, rfl, trivial⟩ (fun _ s => s)))
      refine T.seq fun K8 hK8 => ?_
      refine T.block ?_
      refine T.region ?_
      refine RS.p (Pu.move rfl) rfl rfl ?_
      refine RS.p (Pu.move rfl) rfl rfl ?_
      refine RS.p (Pu.move rfl) rfl rfl ?_
      obtain ⟨g9, H⟩ := gdE H
      obtain ⟨bl10, ol11, rfl⟩ := R_ptr h0 (ne_of_pos (pos_of g9))
      refine RS.p (Pu.indexSl sl39 rfl rfl g9) rfl rfl ?_
      refine RS.q (Qt.ld0 (α := Bool) (Rd.base h0) ty4 rfl rfl g9 (by rintro _ _ rfl; rfl)) rfl rfl ?_
      refine RS.solid (Sd.litS (cs := [_]) sl39 zr4 rfl rfl rfl rfl rfl) rfl rfl fun b12 => ?_
      obtain ⟨g14, H⟩ := gdE H
      refine RS.solid (Sd.app1c (α := Bool) 0 1 (gi a0_l v6) rfl rfl (nilH_lt _) sl39 zr4 rfl rfl rfl rfl g14 (by decide)) rfl rfl fun q13 => ?_
      refine RS.p (Pu.assign rfl) rfl rfl ?_
      refine RS.nil (hK8 _ _ (T.conseq (fr' := [(0, _), (3, _), (4, _)]) ?_ ⟨rfl, rfl, rfl, trivial⟩ (fun _ s => s)))
      refine T.region ?_
      refine RS.p (Pu.move rfl) rfl rfl ?_
      obtain ⟨g15, H⟩ := gdE H
      refine RS.p (Pu.addS rfl rfl g15) rfl rfl ?_
      refine RS.p (Pu.assign rfl) rfl rfl ?_
      refine RS.nil (hL1 _ _ ((l4 ++ [(gi a0_l v6)]), (v6 + 1)) q13 H ⟨rfl, trivial⟩ ⟨rfl, rfl, trivial⟩ (fun w s => s.pick [0] (by decide) rfl))
    · have H := ifF hc8 H
      obtain rfl := hd1 _ H
      refine T.exitTo (by with_reducible (repeat (first | exact ExTo.here | exact ExTo.hereN | exact ExTo.deep (by repeat (first | exact NmTo.seq | apply NmTo.blk)) | apply ExTo.seq | refine ExTo.past (by decide) ?_))) (hJ1 _ _ l4 q5 HX1 trivial ⟨rfl, trivial⟩ (fun w s => s))
theorem thronglaw0_Numbers_walk {w0 : World} {F : Ch} (a0_l : List Int) {q0 : Option Nat × Nat} {m0 : Nat} (hm : m0 = a0_l.length) {r : Unit} (H : thronglaw0_Numbers a0_l = some r) (w : World) (s : Sat w0 [row nilH 3 (rowV q0 m0) a0_l, F] w) : Calls Try.prog 30 #[rowV q0 m0] w fun e w' => e = .returned (.tuple #[]) ∧ Sat w0 [dead, F] w' := by
  subst hm
  unfold thronglaw0_Numbers at H
  refine T.enter (args := [_]) (S := Sat w0 [row nilH 3 (rowV q0 a0_l.length) a0_l, F]) Try.func30 rfl rfl (s) ?_
  refine T.seq fun K1 hK1 => ?_
  refine T.seq fun K2 hK2 => ?_
  refine T.region ?_
  refine RS.p (Pu.assign rfl) rfl rfl ?_
  refine RS.nil (hK2 _ _ ?_)
  refine T.joinE (σ := List Int) (γ := Unit) H (fun s => s) [(0, _)] ⟨rfl, trivial⟩ (fun v2 _ => []) (fun v2 _ => Sat w0 [row nilH 3 (rowV q0 a0_l.length) v2, F]) ?_ ?_
  · rintro v2 ⟨⟩ H
    try dsimp only [Ex.then] at H
    refine Cont.conseq (fr' := [(0, _)]) ?_ ⟨rfl, trivial⟩ (fun _ s => s)
    refine id (hK1 _ _ ?_)
    refine T.region ?_
    refine RS.p (Pu.move rfl) rfl rfl ?_
    refine RS.solid (Sd.litS (cs := [_]) sl26 zr3 rfl rfl rfl rfl rfl) rfl rfl fun b3 => ?_
    obtain ⟨g5, H⟩ := gdE H
    refine RS.solid (Sd.app1c (α := Int) 0 2 5 rfl rfl (nilH_lt _) sl26 zr3 rfl rfl rfl rfl g5 (by decide)) rfl rfl fun q4 => ?_
    refine RS.p (Pu.assign rfl) rfl rfl ?_
    obtain rfl := Option.some.inj H
    refine RS.nil (Cont.end0 rfl fun w' s => ?_)
    exact ⟨rfl, (s.deadRow).pick [3, 1] (by decide) rfl⟩
  · intro z1 hz1 HX1 hJ1
    refine T.block ?_
    refine T.loopA (γ := Unit) hz1 [(0, _)] (fun (v6, l7) _ => [(2, .int .i64 v6)]) (fun (v6, l7) _ => Sat w0 [row nilH 3 (rowV q0 a0_l.length) l7, F]) () ⟨rfl, trivial⟩ ⟨rfl, trivial⟩ (fun w s => s) ?_
    rintro ⟨v6, l7⟩ ⟨⟩ y8 H hd1 KL1 hL1
    try dsimp only [Ex.then] at H
    refine T.conseq (fr' := [(2, _), (0, _)]) ?_ ⟨rfl, rfl, trivial⟩ (fun _ s => s)
    refine T.seq fun K3 hK3 => ?_
    refine T.seq fun K4 hK4 => ?_
    refine T.region ?_
    refine RS.p (Pu.move rfl) rfl rfl ?_
    refine RS.p (Pu.move rfl) rfl rfl ?_
    refine RS.p (Pu.lenSl sl26 rfl) rfl rfl ?_
    refine RS.p (Pu.bin rfl rfl rfl) rfl rfl ?_
    refine RS.nil (hK4 _ _ ?_)
    refine T.condP rfl (fun hc9 => ?_) (fun hc9 => ?_)
    · have H := ifT hc9 H
      refine T.skip (hK3 _ _ (T.conseq (fr' := [(0, _), (2, _)]) ?_ ⟨rfl, rfl, trivial⟩ (fun _ s => s)))
      refine T.seq fun K5 hK5 => ?_
      refine T.block ?_
      refine T.region ?_
      refine RS.p (Pu.move rfl) rfl rfl ?_
      refine RS.p (Pu.move rfl) rfl rfl ?_
      obtain ⟨g10, H⟩ := gdE H
      refine RS.know (fun w s => s.row_fits (q := q0) (m := a0_l.length) (k := 0) rfl) fun hf11 => ?_
      refine RS.know (p := ∃ g cap, q0 = (some g, cap)) (fun w s => s.row_some (k := 0) rfl (pos_of (idx_of hf11.1 g10))) ?_
      rintro ⟨gg12, cc13, rfl⟩
      refine RS.p (Pu.indexSl sl26 rfl rfl g10) rfl rfl ?_
      refine RS.solid (Sd.st0 (α := Int) 0 (-99) rfl ty3 rfl rfl rfl (idx_of hf11.1 g10) rfl rfl (by decide) rfl (by rintro _ _ rfl; rfl)) rfl rfl fun _ => ?_
      refine RS.nil (hK5 _ _ (T.conseq (fr' := [(0, _), (2, _)]) ?_ ⟨rfl, rfl, trivial⟩ (fun _ s => s)))
      refine T.region ?_
      refine RS.p (Pu.move rfl) rfl rfl ?_
      obtain ⟨g14, H⟩ := gdE H
      refine RS.p (Pu.addS rfl rfl g14) rfl rfl ?_
      refine RS.p (Pu.assign rfl) rfl rfl ?_
      refine RS.nil (hL1 _ _ ((v6 + 1), (si l7 v6 (-99))) () H ⟨rfl, trivial⟩ ⟨rfl, trivial⟩ (fun w s => s))
    · have H := ifF hc9 H
      obtain rfl := hd1 _ H
      refine T.exitTo (by with_reducible (repeat (first | exact ExTo.here | exact ExTo.hereN | exact ExTo.deep (by repeat (first | exact NmTo.seq | apply NmTo.blk)) | apply ExTo.seq | refine ExTo.past (by decide) ?_))) (hJ1 _ _ l7 () HX1 ⟨rfl, trivial⟩ trivial (fun w s => s))
theorem throngref10_May_walk (a0_w : Int) (a1_h : Int) (a2_free : List Bool) (w : World) {v0 : Value} (h0 : R (hpOf w) a2_free [v0]) {r : Bool} (H : throngref10_May a0_w a1_h a2_free = some r) : Calls Try.prog 56 #[.int .i64 a0_w, .int .i64 a1_h, v0] w fun e w' => e = .returned (.bool r) ∧ Ext w w' := by
  have hm0 := R_max h0
  obtain ⟨p0, c0, rfl⟩ := R_form h0
  unfold throngref10_May at H
  refine T.enter (args := [_, _, _]) (S := Sat w []) Try.func56 rfl rfl (Sat.start w) ?_
  refine T.seq fun K1 hK1 => ?_
  refine T.region ?_
  refine RS.p (Pu.assign rfl) rfl rfl ?_
  refine RS.nil (hK1 _ _ ?_)
  refine T.seq fun K2 hK2 => ?_
  refine T.region ?_
  refine RS.p (Pu.move rfl) rfl rfl ?_
  refine RS.p (Pu.bin rfl rfl rfl) rfl rfl ?_
  refine RS.p (Pu.move rfl) rfl rfl ?_
  refine RS.joinV 3 12 (.bool (decide ((1 ≤ a0_w) ∧ (a0_w ≤ 128)))) [(0, _), (1, _), (2, _), (6, _)] ⟨rfl, rfl, rfl, rfl, trivial⟩ ?_ ?_
  · refine RS.p (Pu.move rfl) rfl rfl ?_
    refine RS.joinV 3 16 (.bool (decide (((1 ≤ a0_w) ∧ (a0_w ≤ 128)) ∧ (1 ≤ a1_h)))) [(0, _), (1, _), (2, _), (6, _)] ⟨rfl, rfl, rfl, rfl, trivial⟩ ?_ ?_
    · refine RS.p (Pu.move rfl) rfl rfl ?_
      refine RS.joinV 3 20 (.bool (decide ((((1 ≤ a0_w) ∧ (a0_w ≤ 128)) ∧ (1 ≤ a1_h)) ∧ (a1_h ≤ 128)))) [(0, _), (1, _), (2, _), (6, _)] ⟨rfl, rfl, rfl, rfl, trivial⟩ ?_ ?_
      · refine RS.p (Pu.move rfl) rfl rfl ?_
        obtain ⟨g9, H⟩ := gdE H
        refine RS.joinV 7 28 (.bool (decide (((((1 ≤ a0_w) ∧ (a0_w ≤ 128)) ∧ (1 ≤ a1_h)) ∧ (a1_h ≤ 128)) ∧ ((a2_free.length : Int) = (a0_w * a1_h))))) [(6, _)] ⟨rfl, trivial⟩ ?_ ?_
        · refine RS.p (Pu.assign rfl) rfl rfl ?_
          refine RS.nil (hK2 _ _ ?_)
          obtain rfl := Option.some.inj H
          refine T.retTo (by with_reducible ((repeat (first | apply RetTo.seq | apply RetTo.blk)); exact RetTo.refl _)) (Cont.ret1 rfl rfl fun w' s => ?_)
          exact ⟨rfl, s.ext⟩
        · intro hJ8
          refine RS.splitP 21 rfl (fun hc7 => ?_) (fun hc7 => ?_)
          · refine RS.p (Pu.move rfl) rfl rfl ?_
            refine RS.p (Pu.lenSl sl39 rfl) rfl rfl ?_
            refine RS.p (Pu.move rfl) rfl rfl ?_
            refine RS.p (Pu.move rfl) rfl rfl ?_
            refine RS.p (Pu.mulS rfl rfl (g9 hc7)) rfl rfl ?_
            refine RS.p (Pu.bin rfl rfl rfl) rfl rfl ?_
            refine RS.p (Pu.pickT rfl rfl) rfl rfl ?_
            exact hJ8 _ _ ⟨dAndT hc7, rfl, trivial⟩ (fun w s => s)
          · refine RS.no rfl rfl ?_
            refine RS.no rfl rfl ?_
            refine RS.no rfl rfl ?_
            refine RS.no rfl rfl ?_
            refine RS.no rfl rfl ?_
            refine RS.no rfl rfl ?_
            refine RS.p (Pu.pickF rfl rfl) rfl rfl ?_
            exact hJ8 _ _ ⟨dAndF hc7, rfl, trivial⟩ (fun w s => s)
      · intro hJ6
        refine RS.splitP 17 rfl (fun hc5 => ?_) (fun hc5 => ?_)
        · refine RS.p (Pu.move rfl) rfl rfl ?_
          refine RS.p (Pu.bin rfl rfl rfl) rfl rfl ?_
          refine RS.p (Pu.pickT rfl rfl) rfl rfl ?_
          exact hJ6 _ _ ⟨dAndT hc5, rfl, rfl, rfl, rfl, trivial⟩ (fun w s => s)
        · refine RS.no rfl rfl ?_
          refine RS.no rfl rfl ?_
          refine RS.p (Pu.pickF rfl rfl) rfl rfl ?_
          exact hJ6 _ _ ⟨dAndF hc5, rfl, rfl, rfl, rfl, trivial⟩ (fun w s => s)
    · intro hJ4
      refine RS.splitP 13 rfl (fun hc3 => ?_) (fun hc3 => ?_)
      · refine RS.p (Pu.move rfl) rfl rfl ?_
        refine RS.p (Pu.bin rfl rfl rfl) rfl rfl ?_
        refine RS.p (Pu.pickT rfl rfl) rfl rfl ?_
        exact hJ4 _ _ ⟨dAndT hc3, rfl, rfl, rfl, rfl, trivial⟩ (fun w s => s)
      · refine RS.no rfl rfl ?_
        refine RS.no rfl rfl ?_
        refine RS.p (Pu.pickF rfl rfl) rfl rfl ?_
        exact hJ4 _ _ ⟨dAndF hc3, rfl, rfl, rfl, rfl, trivial⟩ (fun w s => s)
  · intro hJ2
    refine RS.splitP 9 rfl (fun hc1 => ?_) (fun hc1 => ?_)
    · refine RS.p (Pu.move rfl) rfl rfl ?_
      refine RS.p (Pu.bin rfl rfl rfl) rfl rfl ?_
      refine RS.p (Pu.pickT rfl rfl) rfl rfl ?_
      exact hJ2 _ _ ⟨dAndT hc1, rfl, rfl, rfl, rfl, trivial⟩ (fun w s => s)
    · refine RS.no rfl rfl ?_
      refine RS.no rfl rfl ?_
      refine RS.p (Pu.pickF rfl rfl) rfl rfl ?_
      exact hJ2 _ _ ⟨dAndF hc1, rfl, rfl, rfl, rfl, trivial⟩ (fun w s => s)
theorem throngref10_Across_walk (a0_w : Int) (w : World) {r : Int} (H : throngref10_Across a0_w = some r) : Calls Try.prog 32 #[.int .i64 a0_w] w fun e w' => e = .returned (.int .i64 r) ∧ Ext w w' := by
  unfold throngref10_Across at H
  refine T.enter (args := [_]) (S := Sat w []) Try.func32 rfl rfl (Sat.start w) ?_
  refine T.seq fun K1 hK1 => ?_
  refine T.region ?_
  refine RS.p (Pu.assign rfl) rfl rfl ?_
  refine RS.nil (hK1 _ _ ?_)
  refine T.seq fun K2 hK2 => ?_
  refine T.region ?_
  refine RS.p (Pu.move rfl) rfl rfl ?_
  obtain ⟨g1, H⟩ := gdE H
  refine RS.p (Pu.addS rfl rfl g1) rfl rfl ?_
  obtain ⟨g2, H⟩ := gdE H
  refine RS.p (Pu.subS rfl rfl g2) rfl rfl ?_
  obtain ⟨g3, H⟩ := gdE H
  refine RS.p (Pu.quoN rfl rfl ⟨g3.1, g3.2, by decide⟩) rfl rfl ?_
  refine RS.p (Pu.assign rfl) rfl rfl ?_
  refine RS.nil (hK2 _ _ (T.conseq (fr' := [(2, _)]) ?_ ⟨rfl, trivial⟩ (fun _ s => s)))
  obtain rfl := Option.some.inj H
  refine T.retTo (by with_reducible ((repeat (first | apply RetTo.seq | apply RetTo.blk)); exact RetTo.refl _)) (Cont.ret1 rfl rfl fun w' s => ?_)
  exact ⟨rfl, s.ext⟩
theorem throngref10_Of_walk (a0_w : Int) (a1_t : Int) (w : World) {r : Int} (H : throngref10_Of a0_w a1_t = some r) : Calls Try.prog 34 #[.int .i64 a0_w, .int .i64 a1_t] w fun e w' => e = .returned (.int .i64 r) ∧ Ext w w' := by
  unfold throngref10_Of at H
  refine T.enter (args := [_, _]) (S := Sat w []) Try.func34 rfl rfl (Sat.start w) ?_
  refine T.seq fun K1 hK1 => ?_
  refine T.region ?_
  refine RS.p (Pu.assign rfl) rfl rfl ?_
  refine RS.nil (hK1 _ _ ?_)
  refine T.seq fun K2 hK2 => ?_
  refine T.drawn (fun _ => True) [(0, .pu), (1, .pu), (2, .pu), (3, .pu), (4, .pu), (5, .rd), (6, .pu), (7, .pu), (8, .pu), (9, .pu), (10, .pu), (11, .pu), (12, .pu)] mixed (ClE.sat _ _) (by kernel_rfl) ?_
  refine RD.p (fun _ _ => trivial) rfl (Pu.move rfl) rfl rfl ?_
  refine RD.p (fun _ _ => trivial) rfl (Pu.move rfl) rfl rfl ?_
  obtain ⟨g1, H⟩ := gdE H
  refine RD.p (fun _ _ => trivial) rfl (Pu.remN rfl rfl (and3 g1)) rfl rfl ?_
  obtain ⟨g2, H⟩ := gdE H
  refine RD.p (fun _ _ => trivial) rfl (Pu.quoN rfl rfl ⟨g2.1, g2.2, by decide⟩) rfl rfl ?_
  refine RD.p (fun _ _ => trivial) rfl (Pu.move rfl) rfl rfl ?_
  obtain ⟨x3, hx3, H⟩ := bindE H
  refine RD.q (fun _ _ => trivial) rfl (Qt.call ent32 rfl fun w s => throngref10_Across_walk a0_w w  hx3) rfl rfl ?_
  refine RD.p (fun _ _ => trivial) rfl (Pu.move rfl) rfl rfl ?_
  refine RD.p (fun _ _ => trivial) rfl (Pu.move rfl) rfl rfl ?_
  obtain ⟨g4, H⟩ := gdE H
  refine RD.p (fun _ _ => trivial) rfl (Pu.quoN rfl rfl g4) rfl rfl ?_
  obtain ⟨g5, H⟩ := gdE H
  refine RD.p (fun _ _ => trivial) rfl (Pu.quoN rfl rfl ⟨g5.1, g5.2, by decide⟩) rfl rfl ?_
  obtain ⟨g6, H⟩ := gdE H
  refine RD.p (fun _ _ => trivial) rfl (Pu.mulS rfl rfl g6) rfl rfl ?_
  obtain ⟨g7, H⟩ := gdE H
  refine RD.p (fun _ _ => trivial) rfl (Pu.addS rfl rfl g7) rfl rfl ?_
  refine RD.p (fun _ _ => trivial) rfl (Pu.assign rfl) rfl rfl ?_
  refine RD.nil (hK2 _ _ (T.conseq (fr' := [(4, _)]) ?_ ⟨rfl, trivial⟩ (fun _ s => s)))
  obtain rfl := Option.some.inj H
  refine T.retTo (by with_reducible ((repeat (first | apply RetTo.seq | apply RetTo.blk)); exact RetTo.refl _)) (Cont.ret1 rfl rfl fun w' s => ?_)
  exact ⟨rfl, s.ext⟩
theorem throngref10_beside_walk (a0_w : Int) (a1_h : Int) (a2_t : Int) (w : World) {r : List Int} (H : throngref10_beside a0_w a1_h a2_t = some r) : Calls Try.prog 57 #[.int .i64 a0_w, .int .i64 a1_h, .int .i64 a2_t] w fun e w' => ∃ q1 : (Option Nat × Nat), e = .returned (rowV q1 r.length) ∧ Sat w [row nilH 3 (rowV q1 r.length) r] w' := by
  unfold throngref10_beside at H
  refine T.enter (args := [_, _, _]) (S := Sat w []) Try.func57 rfl rfl (Sat.start w) ?_
  refine T.seq fun K1 hK1 => ?_
  refine T.region ?_
  refine RS.p (Pu.assign rfl) rfl rfl ?_
  refine RS.nil (hK1 _ _ ?_)
  refine T.seq fun K2 hK2 => ?_
  refine T.region ?_
  refine RS.p (Pu.assign rfl) rfl rfl ?_
  refine RS.nil (hK2 _ _ ?_)
  refine T.seq fun K3 hK3 => ?_
  refine T.seq fun K4 hK4 => ?_
  refine T.region ?_
  refine RS.p (Pu.move rfl) rfl rfl ?_
  refine RS.p (Pu.move rfl) rfl rfl ?_
  obtain ⟨g1, H⟩ := gdE H
  refine RS.p (Pu.quoN rfl rfl g1) rfl rfl ?_
  refine RS.p (Pu.bin rfl rfl rfl) rfl rfl ?_
  refine RS.nil (hK4 _ _ ?_)
  refine T.joinE (σ := List Int) (γ := Option Nat × Nat) H (fun s => s) [(0, _), (1, _), (2, _)] ⟨rfl, rfl, rfl, trivial⟩ (fun v3 q4 => [(7, rowV q4 v3.length)]) (fun v3 q4 => Sat w [row nilH 3 (rowV q4 v3.length) v3]) ?_ ?_
  · rintro v3 q4 H
    try dsimp only [Ex.then] at H
    refine Cont.conseq (fr' := [(7, _), (0, _), (1, _), (2, _)]) ?_ ⟨rfl, rfl, rfl, rfl, trivial⟩ (fun _ s => s)
    refine id (hK3 _ _ ?_)
    refine T.seq fun K5 hK5 => ?_
    refine T.seq fun K6 hK6 => ?_
    refine T.region ?_
    refine RS.p (Pu.move rfl) rfl rfl ?_
    refine RS.p (Pu.move rfl) rfl rfl ?_
    obtain ⟨g5, H⟩ := gdE H
    refine RS.p (Pu.remN rfl rfl (and3 g5)) rfl rfl ?_
    refine RS.p (Pu.move rfl) rfl rfl ?_
    obtain ⟨g6, H⟩ := gdE H
    refine RS.p (Pu.subS rfl rfl g6) rfl rfl ?_
    refine RS.p (Pu.bin rfl rfl rfl) rfl rfl ?_
    refine RS.nil (hK6 _ _ ?_)
    refine T.joinE (σ := List Int) (γ := Option Nat × Nat) H (fun s => s) [(0, _), (1, _), (2, _)] ⟨rfl, rfl, rfl, trivial⟩ (fun v8 q9 => [(7, rowV q9 v8.length)]) (fun v8 q9 => Sat w [row nilH 3 (rowV q9 v8.length) v8]) ?_ ?_
    · rintro v8 q9 H
      try dsimp only [Ex.then] at H
      refine Cont.conseq (fr' := [(7, _), (0, _), (1, _), (2, _)]) ?_ ⟨rfl, rfl, rfl, rfl, trivial⟩ (fun _ s => s)
      refine id (hK5 _ _ ?_)
      refine T.seq fun K7 hK7 => ?_
      refine T.seq fun K8 hK8 => ?_
      refine T.region ?_
      refine RS.p (Pu.move rfl) rfl rfl ?_
      refine RS.p (Pu.move rfl) rfl rfl ?_
      obtain ⟨g10, H⟩ := gdE H
      refine RS.p (Pu.quoN rfl rfl g10) rfl rfl ?_
      refine RS.p (Pu.move rfl) rfl rfl ?_
      obtain ⟨g11, H⟩ := gdE H
      refine RS.p (Pu.subS rfl rfl g11) rfl rfl ?_
      refine RS.p (Pu.bin rfl rfl rfl) rfl rfl ?_
      refine RS.nil (hK8 _ _ ?_)
      refine T.joinE (σ := List Int) (γ := Option Nat × Nat) H (fun s => s) [(0, _), (2, _)] ⟨rfl, rfl, trivial⟩ (fun v13 q14 => [(7, rowV q14 v13.length)]) (fun v13 q14 => Sat w [row nilH 3 (rowV q14 v13.length) v13]) ?_ ?_
      · rintro v13 q14 H
        try dsimp only [Ex.then] at H
        refine Cont.conseq (fr' := [(7, _), (0, _), (2, _)]) ?_ ⟨rfl, rfl, rfl, trivial⟩ (fun _ s => s)
        refine id (hK7 _ _ ?_)
        refine T.seq fun K9 hK9 => ?_
        refine T.seq fun K10 hK10 => ?_
        refine T.region ?_
        refine RS.p (Pu.move rfl) rfl rfl ?_
        refine RS.p (Pu.move rfl) rfl rfl ?_
        obtain ⟨g15, H⟩ := gdE H
        refine RS.p (Pu.remN rfl rfl (and3 g15)) rfl rfl ?_
        refine RS.p (Pu.bin rfl rfl rfl) rfl rfl ?_
        refine RS.nil (hK10 _ _ ?_)
        refine T.condP rfl (fun hc16 => ?_) (fun hc16 => ?_)
        · have H := ifT hc16 H
          refine T.conseq (fr' := [(2, _), (7, _)]) ?_ ⟨rfl, rfl, trivial⟩ (fun _ s => s)
          refine T.region ?_
          refine RS.p (Pu.move rfl) rfl rfl ?_
          refine RS.p (Pu.move rfl) rfl rfl ?_
          obtain ⟨g17, H⟩ := gdE H
          refine RS.p (Pu.subS rfl rfl g17) rfl rfl ?_
          refine RS.solid (Sd.litS (cs := [_]) sl26 zr3 rfl rfl rfl rfl rfl) rfl rfl fun b18 => ?_
          obtain ⟨g20, H⟩ := gdE H
          refine RS.solid (Sd.app1c (α := Int) 0 1 (a2_t - 1) rfl rfl (nilH_lt _) sl26 zr3 rfl rfl rfl rfl g20 (by decide)) rfl rfl fun q19 => ?_
          refine RS.p (Pu.assign rfl) rfl rfl ?_
          refine RS.nil (hK9 _ _ (T.conseq (fr' := [(7, _)]) ?_ ⟨rfl, trivial⟩ (fun _ s => s)))
          refine T.seq fun K11 hK11 => ?_
          refine T.region ?_
          refine RS.p (Pu.move rfl) rfl rfl ?_
          refine RS.p (Pu.assign rfl) rfl rfl ?_
          refine RS.nil (hK11 _ _ ?_)
          obtain rfl := Option.some.inj H
          refine T.retTo (by with_reducible ((repeat (first | apply RetTo.seq | apply RetTo.blk)); exact RetTo.refl _)) (Cont.ret1 rfl rfl fun w' s => ?_)
          exact ⟨q19, rfl, s.pick [0] (by decide) rfl⟩
        · have H := ifF hc16 H
          refine T.skip (hK9 _ _ (T.conseq (fr' := [(7, _)]) ?_ ⟨rfl, trivial⟩ (fun _ s => s)))
          refine T.seq fun K12 hK12 => ?_
          refine T.region ?_
          refine RS.p (Pu.move rfl) rfl rfl ?_
          refine RS.p (Pu.assign rfl) rfl rfl ?_
          refine RS.nil (hK12 _ _ ?_)
          obtain rfl := Option.some.inj H
          refine T.retTo (by with_reducible ((repeat (first | apply RetTo.seq | apply RetTo.blk)); exact RetTo.refl _)) (Cont.ret1 rfl rfl fun w' s => ?_)
          exact ⟨q14, rfl, s.pick [0] (by decide) rfl⟩
      · intro z12 H HX12 hJ12
        refine T.condP rfl (fun hc21 => ?_) (fun hc21 => ?_)
        · have H := ifT hc21 H
          refine T.conseq (fr' := [(0, _), (2, _), (7, _)]) ?_ ⟨rfl, rfl, rfl, trivial⟩ (fun _ s => s)
          refine T.region ?_
          refine RS.p (Pu.move rfl) rfl rfl ?_
          refine RS.p (Pu.move rfl) rfl rfl ?_
          refine RS.p (Pu.move rfl) rfl rfl ?_
          obtain ⟨g22, H⟩ := gdE H
          refine RS.p (Pu.addS rfl rfl g22) rfl rfl ?_
          refine RS.solid (Sd.litS (cs := [_]) sl26 zr3 rfl rfl rfl rfl rfl) rfl rfl fun b23 => ?_
          obtain ⟨g25, H⟩ := gdE H
          refine RS.solid (Sd.app1c (α := Int) 0 1 (a2_t + a0_w) rfl rfl (nilH_lt _) sl26 zr3 rfl rfl rfl rfl g25 (by decide)) rfl rfl fun q24 => ?_
          refine RS.p (Pu.assign rfl) rfl rfl ?_
          obtain rfl := Option.some.inj H
          refine RS.nil (hJ12 _ _ (v8 ++ [(a2_t + a0_w)]) q24 HX12 ⟨rfl, rfl, trivial⟩ ⟨rfl, trivial⟩ (fun w s => s.pick [0] (by decide) rfl))
        · have H := ifF hc21 H
          obtain rfl := Option.some.inj H
          refine T.skip (hJ12 _ _ v8 q9 HX12 ⟨rfl, rfl, trivial⟩ ⟨rfl, trivial⟩ (fun w s => s))
    · intro z7 H HX7 hJ7
      refine T.condP rfl (fun hc26 => ?_) (fun hc26 => ?_)
      · have H := ifT hc26 H
        refine T.conseq (fr' := [(0, _), (1, _), (2, _), (7, _)]) ?_ ⟨rfl, rfl, rfl, rfl, trivial⟩ (fun _ s => s)
        refine T.region ?_
        refine RS.p (Pu.move rfl) rfl rfl ?_
        refine RS.p (Pu.move rfl) rfl rfl ?_
        obtain ⟨g27, H⟩ := gdE H
        refine RS.p (Pu.addS rfl rfl g27) rfl rfl ?_
        refine RS.solid (Sd.litS (cs := [_]) sl26 zr3 rfl rfl rfl rfl rfl) rfl rfl fun b28 => ?_
        obtain ⟨g30, H⟩ := gdE H
        refine RS.solid (Sd.app1c (α := Int) 0 1 (a2_t + 1) rfl rfl (nilH_lt _) sl26 zr3 rfl rfl rfl rfl g30 (by decide)) rfl rfl fun q29 => ?_
        refine RS.p (Pu.assign rfl) rfl rfl ?_
        obtain rfl := Option.some.inj H
        refine RS.nil (hJ7 _ _ (v3 ++ [(a2_t + 1)]) q29 HX7 ⟨rfl, rfl, rfl, trivial⟩ ⟨rfl, trivial⟩ (fun w s => s.pick [0] (by decide) rfl))
      · have H := ifF hc26 H
        obtain rfl := Option.some.inj H
        refine T.skip (hJ7 _ _ v3 q4 HX7 ⟨rfl, rfl, rfl, trivial⟩ ⟨rfl, trivial⟩ (fun w s => s))
  · intro z2 H HX2 hJ2
    refine T.condP rfl (fun hc31 => ?_) (fun hc31 => ?_)
    · have H := ifT hc31 H
      refine T.conseq (fr' := [(0, _), (1, _), (2, _), (7, _)]) ?_ ⟨rfl, rfl, rfl, rfl, trivial⟩ (fun _ s => s)
      refine T.region ?_
      refine RS.p (Pu.move rfl) rfl rfl ?_
      refine RS.p (Pu.move rfl) rfl rfl ?_
      refine RS.p (Pu.move rfl) rfl rfl ?_
      obtain ⟨g32, H⟩ := gdE H
      refine RS.p (Pu.subS rfl rfl g32) rfl rfl ?_
      refine RS.solid (Sd.litS (cs := [_]) sl26 zr3 rfl rfl rfl rfl rfl) rfl rfl fun b33 => ?_
      refine RS.weakS (fun w s => s.nilRow (α := Int) 3) ?_
      obtain ⟨g35, H⟩ := gdE H
      refine RS.solid (Sd.app1c (α := Int) 1 0 (a2_t - a0_w) rfl rfl (nilH_lt _) sl26 zr3 rfl rfl rfl rfl g35 (by decide)) rfl rfl fun q34 => ?_
      refine RS.p (Pu.assign rfl) rfl rfl ?_
      obtain rfl := Option.some.inj H
      refine RS.nil (hJ2 _ _ (([] : List Int) ++ [(a2_t - a0_w)]) q34 HX2 ⟨rfl, rfl, rfl, trivial⟩ ⟨rfl, trivial⟩ (fun w s => s.pick [1] (by decide) rfl))
    · have H := ifF hc31 H
      obtain rfl := Option.some.inj H
      refine T.skip (hJ2 _ _ [] (none, 0) HX2 ⟨rfl, rfl, rfl, trivial⟩ ⟨rfl, trivial⟩ (fun w s => (s.nilRow (α := Int) 3).pick [0] (by decide) rfl))
theorem throngref10_Parts_walk (a0_w : Int) (a1_h : Int) (a2_free : List Bool) (w : World) {v0 : Value} (h0 : R (hpOf w) a2_free [v0]) {r : List Int} (H : throngref10_Parts a0_w a1_h a2_free = some r) : Calls Try.prog 25 #[.int .i64 a0_w, .int .i64 a1_h, v0] w fun e w' => ∃ q1 : (Option Nat × Nat), e = .returned (rowV q1 r.length) ∧ Sat w [row nilH 3 (rowV q1 r.length) r] w' := by
  have hm0 := R_max h0
  obtain ⟨p0, c0, rfl⟩ := R_form h0
  unfold throngref10_Parts at H
  refine T.enter (args := [_, _, _]) (S := Sat w []) Try.func25 rfl rfl (Sat.start w) ?_
  refine T.seq fun K1 hK1 => ?_
  refine T.region ?_
  refine RS.p (Pu.assign rfl) rfl rfl ?_
  refine RS.nil (hK1 _ _ ?_)
  refine T.seq fun K2 hK2 => ?_
  refine T.region ?_
  refine RS.p (Pu.move rfl) rfl rfl ?_
  refine RS.p (Pu.move rfl) rfl rfl ?_
  obtain ⟨g1, H⟩ := gdE H
  refine RS.p (Pu.mulS rfl rfl g1) rfl rfl ?_
  obtain ⟨g3, H⟩ := gdE H
  refine RS.solid (Sd.make (α := Int) (B := nilH) 0 sl26 zr3 rfl (by decide) rfl rfl (by omega) (by omega) (by omega)) rfl rfl fun b2 => ?_
  refine RS.p (Pu.assign rfl) rfl rfl ?_
  refine RS.nil (hK2 _ _ (T.conseq (fr' := [(0, _), (1, _), (2, _), (7, _)]) ?_ ⟨rfl, rfl, rfl, rfl, trivial⟩ (fun _ s => s)))
  refine T.seq fun K3 hK3 => ?_
  refine T.seq fun K4 hK4 => ?_
  refine T.region ?_
  refine RS.p (Pu.assign rfl) rfl rfl ?_
  refine RS.nil (hK4 _ _ ?_)
  refine T.joinE (σ := List Int) (γ := Unit) H (fun s => s) [(0, _), (1, _), (2, _), (7, _)] ⟨rfl, rfl, rfl, rfl, trivial⟩ (fun v5 _ => []) (fun v5 _ => Sat w [row nilH 3 (rowV (some b2, (a0_w * a1_h).toNat) ((a0_w * a1_h).toNat)) v5]) ?_ ?_
  · rintro v5 ⟨⟩ H
    try dsimp only [Ex.then] at H
    refine Cont.conseq (fr' := [(0, _), (1, _), (2, _), (7, _)]) ?_ ⟨rfl, rfl, rfl, rfl, trivial⟩ (fun _ s => s)
    refine id (hK3 _ _ ?_)
    refine T.seq fun K5 hK5 => ?_
    refine T.seq fun K6 hK6 => ?_
    refine T.region ?_
    refine RS.p (Pu.assign rfl) rfl rfl ?_
    refine RS.nil (hK6 _ _ ?_)
    refine T.joinE (σ := List Int) (γ := Unit) H (fun s => s) [(7, _)] ⟨rfl, trivial⟩ (fun v7 _ => []) (fun v7 _ => Sat w [row nilH 3 (rowV (some b2, (a0_w * a1_h).toNat) ((a0_w * a1_h).toNat)) v7]) ?_ ?_
    · rintro v7 ⟨⟩ H
      try dsimp only [Ex.then] at H
      refine Cont.conseq (fr' := [(7, _)]) ?_ ⟨rfl, trivial⟩ (fun _ s => s)
      refine id (hK5 _ _ ?_)
      refine T.seq fun K7 hK7 => ?_
      refine T.region ?_
      refine RS.p (Pu.move rfl) rfl rfl ?_
      refine RS.p (Pu.assign rfl) rfl rfl ?_
      refine RS.nil (hK7 _ _ ?_)
      obtain rfl := Option.some.inj H
      refine T.retTo (by with_reducible ((repeat (first | apply RetTo.seq | apply RetTo.blk)); exact RetTo.refl _)) (Cont.ret1 rfl rfl fun w' s => ?_)
      exact ⟨(some b2, (a0_w * a1_h).toNat), (by simp only [(s.row_fits (q := (some b2, (a0_w * a1_h).toNat)) (m := (a0_w * a1_h).toNat) (k := 0) rfl).1]; try rfl), (Sat.relen (q := (some b2, (a0_w * a1_h).toNat)) (m := (a0_w * a1_h).toNat) 0 s rfl).pick [0] (by decide) rfl⟩
    · intro z6 hz6 HX6 hJ6
      refine T.block ?_
      refine T.loopA (γ := Unit) hz6 [(0, _), (1, _), (2, _), (7, _)] (fun (v8, l9) _ => [(9, .bool v8)]) (fun (v8, l9) _ => Sat w [row nilH 3 (rowV (some b2, (a0_w * a1_h).toNat) ((a0_w * a1_h).toNat)) l9]) () ⟨rfl, rfl, rfl, rfl, trivial⟩ ⟨rfl, trivial⟩ (fun w s => s) ?_
      rintro ⟨v8, l9⟩ ⟨⟩ y10 H hd6 KL6 hL6
      try dsimp only [Ex.then] at H
      refine T.conseq (fr' := [(9, _), (0, _), (1, _), (2, _), (7, _)]) ?_ ⟨rfl, rfl, rfl, rfl, rfl, trivial⟩ (fun _ s => s)
      refine T.seq fun K8 hK8 => ?_
      refine T.seq fun K9 hK9 => ?_
      refine T.region ?_
      refine RS.p (Pu.move rfl) rfl rfl ?_
      refine RS.nil (hK9 _ _ ?_)
      refine T.cond rfl (fun hc11 => ?_) (fun hc11 => ?_)
      · have H := ifT hc11 H
        refine T.skip (hK8 _ _ ?_)
        refine T.block ?_
        refine T.seq fun K10 hK10 => ?_
        refine T.region ?_
        refine RS.p (Pu.assign rfl) rfl rfl ?_
        refine RS.nil (hK10 _ _ ?_)
        refine T.seq fun K11 hK11 => ?_
        refine T.region ?_
        refine RS.p (Pu.assign rfl) rfl rfl ?_
        refine RS.nil (hK11 _ _ ?_)
        refine T.joinE (σ := Bool × List Int) (γ := Unit) H (fun s => s) [(0, _), (1, _), (2, _), (7, _)] ⟨rfl, rfl, rfl, rfl, trivial⟩ (fun (v13, v14) _ => [(9, .bool v13)]) (fun (v13, v14) _ => Sat w [row nilH 3 (rowV (some b2, (a0_w * a1_h).toNat) ((a0_w * a1_h).toNat)) v14]) ?_ ?_
        · rintro ⟨v13, v14⟩ ⟨⟩ H
          try dsimp only [Ex.then] at H
          refine Cont.conseq (fr' := [(9, _), (0, _), (1, _), (2, _), (7, _)]) ?_ ⟨rfl, rfl, rfl, rfl, rfl, trivial⟩ (fun _ s => s)
          refine id (hL6 _ _ (v13, v14) () H ⟨rfl, rfl, rfl, rfl, trivial⟩ ⟨rfl, trivial⟩ (fun w s => s))
        · intro z12 hz12 HX12 hJ12
          refine T.block ?_
          refine T.loopA (γ := Unit) hz12 [(0, _), (1, _), (2, _), (7, _)] (fun (v15, v16, l17) _ => [(9, .bool v15), (10, .int .i64 v16)]) (fun (v15, v16, l17) _ => Sat w [row nilH 3 (rowV (some b2, (a0_w * a1_h).toNat) ((a0_w * a1_h).toNat)) l17]) () ⟨rfl, rfl, rfl, rfl, trivial⟩ ⟨rfl, rfl, trivial⟩ (fun w s => s) ?_
          rintro ⟨v15, v16, l17⟩ ⟨⟩ y18 H hd12 KL12 hL12
          try dsimp only [Ex.then] at H
          refine T.conseq (fr' := [(9, _), (10, _), (0, _), (1, _), (2, _), (7, _)]) ?_ ⟨rfl, rfl, rfl, rfl, rfl, rfl, trivial⟩ (fun _ s => s)
          refine T.seq fun K12 hK12 => ?_
          refine T.seq fun K13 hK13 => ?_
          refine T.region ?_
          refine RS.p (Pu.move rfl) rfl rfl ?_
          refine RS.p (Pu.move rfl) rfl rfl ?_
          refine RS.p (Pu.lenSl sl26 rfl) rfl rfl ?_
          refine RS.p (Pu.bin rfl rfl rfl) rfl rfl ?_
          refine RS.nil (hK13 _ _ ?_)
          refine T.condP rfl (fun hc19 => ?_) (fun hc19 => ?_)
          · have H := ifT hc19 H
            refine T.skip (hK12 _ _ (T.conseq (fr' := [(0, _), (1, _), (2, _), (7, _), (9, _), (10, _)]) ?_ ⟨rfl, rfl, rfl, rfl, rfl, rfl, trivial⟩ (fun _ s => s)))
            refine T.seq fun K14 hK14 => ?_
            refine T.block ?_
            refine T.seq fun K15 hK15 => ?_
            refine T.seq fun K16 hK16 => ?_
            refine T.region ?_
            refine RS.p (Pu.move rfl) rfl rfl ?_
            refine RS.p (Pu.move rfl) rfl rfl ?_
            obtain ⟨g20, H⟩ := gdE H
            obtain ⟨bl21, ol22, rfl⟩ := R_ptr h0 (ne_of_pos (pos_of g20))
            refine RS.p (Pu.indexSl sl39 rfl rfl g20) rfl rfl ?_
            refine RS.q (Qt.ld0 (α := Bool) (Rd.base h0) ty4 rfl rfl g20 (by rintro _ _ rfl; rfl)) rfl rfl ?_
            refine RS.p (Pu.not rfl) rfl rfl ?_
            refine RS.nil (hK16 _ _ ?_)
            refine T.cond rfl (fun hc23 => ?_) (fun hc23 => ?_)
            · have H := ifT hc23 H
              refine T.exitTo (by with_reducible (repeat (first | exact ExTo.here | exact ExTo.hereN | exact ExTo.deep (by repeat (first | exact NmTo.seq | apply NmTo.blk)) | apply ExTo.seq | refine ExTo.past (by decide) ?_))) (hK14 _ _ (T.conseq (fr' := [(0, _), (1, _), (2, _), (7, _), (9, _), (10, _)]) ?_ ⟨rfl, rfl, rfl, rfl, rfl, rfl, trivial⟩ (fun _ s => s)))
              refine T.region ?_
              refine RS.p (Pu.move rfl) rfl rfl ?_
              obtain ⟨g24, H⟩ := gdE H
              refine RS.p (Pu.addS rfl rfl g24) rfl rfl ?_
              refine RS.p (Pu.assign rfl) rfl rfl ?_
              refine RS.nil (hL12 _ _ (v15, (v16 + 1), l17) () H ⟨rfl, rfl, rfl, rfl, trivial⟩ ⟨rfl, rfl, trivial⟩ (fun w s => s))
            · have H := ifB hc23 H
              refine T.skip (hK15 _ _ (T.conseq (fr' := [(0, _), (1, _), (2, _), (7, _), (9, _), (10, _)]) ?_ ⟨rfl, rfl, rfl, rfl, rfl, rfl, trivial⟩ (fun _ s => s)))
              refine T.seq fun K17 hK17 => ?_
              refine T.region ?_
              refine RS.p (Pu.move rfl) rfl rfl ?_
              refine RS.p (Pu.move rfl) rfl rfl ?_
              refine RS.p (Pu.move rfl) rfl rfl ?_
              obtain ⟨x25, hx25, H⟩ := bindE H
              refine RS.solid (Sd.callN ent57 rfl (fun w s => throngref10_beside_walk a0_w a1_h v16 w  hx25)) rfl rfl fun q26 => ?_
              refine RS.p (Pu.assign rfl) rfl rfl ?_
              refine RS.nil (hK17 _ _ (T.conseq (fr' := [(0, _), (1, _), (2, _), (7, _), (9, _), (10, _), (11, _)]) ?_ ⟨rfl, rfl, rfl, rfl, rfl, rfl, rfl, trivial⟩ (fun _ s => s)))
              refine T.seq fun K18 hK18 => ?_
              refine T.region ?_
              refine RS.p (Pu.assign rfl) rfl rfl ?_
              refine RS.nil (hK18 _ _ ?_)
              refine T.joinE (σ := Bool × List Int) (γ := Unit) H (fun s => s) [(0, _), (1, _), (2, _), (7, _), (10, _)] ⟨rfl, rfl, rfl, rfl, rfl, trivial⟩ (fun (v28, v29) _ => [(9, .bool v28)]) (fun (v28, v29) _ => Sat w [row nilH 3 (rowV (some b2, (a0_w * a1_h).toNat) ((a0_w * a1_h).toNat)) v29, row nilH 3 (rowV q26 x25.length) x25]) ?_ ?_
              · rintro ⟨v28, v29⟩ ⟨⟩ H
                try dsimp only [Ex.then] at H
                refine Cont.conseq (fr' := [(9, _), (0, _), (1, _), (2, _), (7, _), (10, _)]) ?_ ⟨rfl, rfl, rfl, rfl, rfl, rfl, trivial⟩ (fun _ s => s)
                refine id (hK14 _ _ ?_)
                refine T.region ?_
                refine RS.p (Pu.move rfl) rfl rfl ?_
                obtain ⟨g30, H⟩ := gdE H
                refine RS.p (Pu.addS rfl rfl g30) rfl rfl ?_
                refine RS.p (Pu.assign rfl) rfl rfl ?_
                refine RS.nil (hL12 _ _ (v28, (v16 + 1), v29) () H ⟨rfl, rfl, rfl, rfl, trivial⟩ ⟨rfl, rfl, trivial⟩ (fun w s => s.pick [0] (by decide) rfl))
              · intro z27 hz27 HX27 hJ27
                refine T.block ?_
                refine T.loopA (γ := Unit) hz27 [(0, _), (1, _), (2, _), (7, _), (10, _), (11, _)] (fun (v31, v32, l33) _ => [(9, .bool v31), (12, .int .i64 v32)]) (fun (v31, v32, l33) _ => Sat w [row nilH 3 (rowV (some b2, (a0_w * a1_h).toNat) ((a0_w * a1_h).toNat)) l33, row nilH 3 (rowV q26 x25.length) x25]) () ⟨rfl, rfl, rfl, rfl, rfl, rfl, trivial⟩ ⟨rfl, rfl, trivial⟩ (fun w s => s) ?_
                rintro ⟨v31, v32, l33⟩ ⟨⟩ y34 H hd27 KL27 hL27
                try dsimp only [Ex.then] at H
                refine T.conseq (fr' := [(9, _), (12, _), (0, _), (1, _), (2, _), (7, _), (10, _), (11, _)]) ?_ ⟨rfl, rfl, rfl, rfl, rfl, rfl, rfl, rfl, trivial⟩ (fun _ s => s)
                refine T.seq fun K19 hK19 => ?_
                refine T.seq fun K20 hK20 => ?_
                refine T.region ?_
                refine RS.p (Pu.move rfl) rfl rfl ?_
                refine RS.p (Pu.move rfl) rfl rfl ?_
                refine RS.p (Pu.lenSl sl26 rfl) rfl rfl ?_
                refine RS.p (Pu.bin rfl rfl rfl) rfl rfl ?_
                refine RS.nil (hK20 _ _ ?_)
                refine T.condP rfl (fun hc35 => ?_) (fun hc35 => ?_)
                · have H := ifT hc35 H
                  refine T.skip (hK19 _ _ (T.conseq (fr' := [(0, _), (1, _), (2, _), (7, _), (9, _), (10, _), (11, _), (12, _)]) ?_ ⟨rfl, rfl, rfl, rfl, rfl, rfl, rfl, rfl, trivial⟩ (fun _ s => s)))
                  refine T.seq fun K21 hK21 => ?_
                  refine T.block ?_
                  refine T.seq fun K22 hK22 => ?_
                  refine T.drawn (fun _ => True) [(0, .pu), (1, .pu), (2, .pu), (3, .pu), (4, .rd), (5, .pu), (6, .rd), (7, .pu), (8, .pu), (9, .pu), (10, .pu), (11, .pu), (12, .rd), (13, .rd), (14, .pu), (15, .pu), (16, .rd), (17, .pu), (18, .pu), (19, .pu), (20, .pu), (21, .pu), (22, .pu), (23, .pu), (24, .rd), (25, .pu), (26, .rd), (27, .pu), (28, .pu), (29, .pu), (30, .rd), (31, .pu), (32, .pu)] mixed (ClE.sat _ _) (by kernel_rfl) ?_
                  refine RD.p (fun _ _ => trivial) rfl (Pu.move rfl) rfl rfl ?_
                  refine RD.p (fun _ _ => trivial) rfl (Pu.move rfl) rfl rfl ?_
                  refine RD.p (fun _ _ => trivial) rfl (Pu.move rfl) rfl rfl ?_
                  obtain ⟨g36, H⟩ := gdE H
                  refine RD.know (p := ∃ g cap, q26 = (some g, cap)) (fun w s => s.row_some (k := 1) rfl (pos_of g36)) ?_
                  rintro ⟨gg37, cc38, rfl⟩
                  refine RD.p (fun _ _ => trivial) rfl (Pu.indexSl sl26 rfl rfl g36) rfl rfl ?_
                  refine RD.q (fun _ _ => trivial) rfl (Qt.ld0 (α := Int) (Rd.ofRowN 1 rfl) ty3 rfl rfl g36 (by rintro _ _ rfl; rfl)) rfl rfl ?_
                  obtain ⟨g39, H⟩ := gdE H
                  refine RD.p (fun _ _ => trivial) rfl (Pu.indexSl sl39 rfl rfl g39) rfl rfl ?_
                  refine RD.q (fun _ _ => trivial) rfl (Qt.ld0 (α := Bool) (Rd.base h0) ty4 rfl rfl g39 (by rintro _ _ rfl; rfl)) rfl rfl ?_
                  refine RD.p (fun _ _ => trivial) rfl (Pu.move rfl) rfl rfl ?_
                  refine RD.joinB H 11 74 (fun b42 => .bool b42) [(0, _), (1, _), (2, _), (7, _), (9, _), (10, _), (11, _), (12, _)] ⟨rfl, rfl, rfl, rfl, rfl, rfl, rfl, rfl, trivial⟩ ?_ ?_
                  · intro b42 H
                    refine RD.p (fun _ _ => trivial) rfl (Pu.move rfl) rfl rfl ?_
                    obtain ⟨g45, H⟩ := gdE H
                    obtain ⟨g46, H⟩ := gdE H
                    obtain ⟨g47, H⟩ := gdE H
                    refine RD.joinV 13 88 (.bool (decide ((b42 = true) ∧ ((gi l33 (gi x25 v32)) < (gi l33 v16))))) [(0, _), (1, _), (2, _), (7, _), (9, _), (10, _), (11, _), (12, _)] ⟨rfl, rfl, rfl, rfl, rfl, rfl, rfl, rfl, trivial⟩ ?_ ?_
                    · refine RD.nil (hK22 _ _ ?_)
                      refine T.condP rfl (fun hc48 => ?_) (fun hc48 => ?_)
                      · have H := ifT hc48 H
                        refine T.seq fun K23 hK23 => ?_
                        refine T.region ?_
                        refine RS.p (Pu.move rfl) rfl rfl ?_
                        refine RS.p (Pu.move rfl) rfl rfl ?_
                        refine RS.p (Pu.move rfl) rfl rfl ?_
                        refine RS.p (Pu.move rfl) rfl rfl ?_
                        refine RS.p (Pu.move rfl) rfl rfl ?_
                        obtain ⟨g49, H⟩ := gdE H
                        refine RS.p (Pu.indexSl sl26 rfl rfl g49) rfl rfl ?_
                        refine RS.q (Qt.ld0 (α := Int) (Rd.ofRowN 1 rfl) ty3 rfl rfl g49 (by rintro _ _ rfl; rfl)) rfl rfl ?_
                        obtain ⟨g50, H⟩ := gdE H
                        refine RS.know (fun w s => s.row_fits (q := (some b2, (a0_w * a1_h).toNat)) (m := (a0_w * a1_h).toNat) (k := 0) rfl) fun hf51 => ?_
                        refine RS.p (Pu.indexSl sl26 rfl rfl g50) rfl rfl ?_
                        refine RS.q (Qt.ld0 (α := Int) (Rd.ofRowN 0 rfl) ty3 rfl rfl (idx_of hf51.1 g50) (by rintro _ _ rfl; rfl)) rfl rfl ?_
                        obtain ⟨g52, H⟩ := gdE H
                        refine RS.know (fun w s => s.row_fits (q := (some b2, (a0_w * a1_h).toNat)) (m := (a0_w * a1_h).toNat) (k := 0) rfl) fun hf53 => ?_
                        refine RS.p (Pu.indexSl sl26 rfl rfl g52) rfl rfl ?_
                        refine RS.solid (Sd.st0 (α := Int) 0 (gi l33 (gi x25 v32)) rfl ty3 rfl rfl rfl (idx_of hf53.1 g52) rfl rfl (by decide) rfl (by rintro _ _ rfl; rfl)) rfl rfl fun _ => ?_
                        refine RS.nil (hK23 _ _ (T.conseq (fr' := [(0, _), (1, _), (2, _), (7, _), (10, _), (11, _), (12, _)]) ?_ ⟨rfl, rfl, rfl, rfl, rfl, rfl, rfl, trivial⟩ (fun _ s => s)))
                        refine T.region ?_
                        refine RS.p (Pu.assign rfl) rfl rfl ?_
                        refine RS.nil (hK21 _ _ ?_)
                        refine T.region ?_
                        refine RS.p (Pu.move rfl) rfl rfl ?_
                        obtain ⟨g54, H⟩ := gdE H
                        refine RS.p (Pu.addS rfl rfl g54) rfl rfl ?_
                        refine RS.p (Pu.assign rfl) rfl rfl ?_
                        refine RS.nil (hL27 _ _ (true, (v32 + 1), (si l33 v16 (gi l33 (gi x25 v32)))) () H ⟨rfl, rfl, rfl, rfl, rfl, rfl, trivial⟩ ⟨rfl, rfl, trivial⟩ (fun w s => s))
                      · have H := ifF hc48 H
                        refine T.skip (hK21 _ _ ?_)
                        refine T.region ?_
                        refine RS.p (Pu.move rfl) rfl rfl ?_
                        obtain ⟨g55, H⟩ := gdE H
                        refine RS.p (Pu.addS rfl rfl g55) rfl rfl ?_
                        refine RS.p (Pu.assign rfl) rfl rfl ?_
                        refine RS.nil (hL27 _ _ (v31, (v32 + 1), l33) () H ⟨rfl, rfl, rfl, rfl, rfl, rfl, trivial⟩ ⟨rfl, rfl, trivial⟩ (fun w s => s))
                    · intro hJ44
                      refine RD.split 75 rfl (fun hc43 => ?_) (fun hc43 => ?_)
                      · refine RD.p (fun _ _ => trivial) rfl (Pu.move rfl) rfl rfl ?_
                        refine RD.p (fun _ _ => trivial) rfl (Pu.move rfl) rfl rfl ?_
                        refine RD.p (fun _ _ => trivial) rfl (Pu.move rfl) rfl rfl ?_
                        refine RD.p (fun _ _ => trivial) rfl (Pu.indexSl sl26 rfl rfl (g45 hc43)) rfl rfl ?_
                        refine RD.q (fun _ _ => trivial) rfl (Qt.ld0 (α := Int) (Rd.ofRowN 1 rfl) ty3 rfl rfl (g45 hc43) (by rintro _ _ rfl; rfl)) rfl rfl ?_
                        refine RD.know (fun w s => s.row_fits (q := (some b2, (a0_w * a1_h).toNat)) (m := (a0_w * a1_h).toNat) (k := 0) rfl) fun hf56 => ?_
                        refine RD.p (fun _ _ => trivial) rfl (Pu.indexSl sl26 rfl rfl (g46 hc43)) rfl rfl ?_
                        refine RD.q (fun _ _ => trivial) rfl (Qt.ld0 (α := Int) (Rd.ofRowN 0 rfl) ty3 rfl rfl (idx_of hf56.1 (g46 hc43)) (by rintro _ _ rfl; rfl)) rfl rfl ?_
                        refine RD.p (fun _ _ => trivial) rfl (Pu.move rfl) rfl rfl ?_
                        refine RD.p (fun _ _ => trivial) rfl (Pu.move rfl) rfl rfl ?_
                        refine RD.know (fun w s => s.row_fits (q := (some b2, (a0_w * a1_h).toNat)) (m := (a0_w * a1_h).toNat) (k := 0) rfl) fun hf57 => ?_
                        refine RD.p (fun _ _ => trivial) rfl (Pu.indexSl sl26 rfl rfl (g47 hc43)) rfl rfl ?_
                        refine RD.q (fun _ _ => trivial) rfl (Qt.ld0 (α := Int) (Rd.ofRowN 0 rfl) ty3 rfl rfl (idx_of hf57.1 (g47 hc43)) (by rintro _ _ rfl; rfl)) rfl rfl ?_
                        refine RD.p (fun _ _ => trivial) rfl (Pu.bin rfl rfl rfl) rfl rfl ?_
                        refine RD.p (fun _ _ => trivial) rfl (Pu.pickT rfl rfl) rfl rfl ?_
                        exact hJ44 _ ⟨dAndT hc43, rfl, rfl, rfl, rfl, rfl, rfl, rfl, rfl, trivial⟩
                      · refine RD.no (fun _ _ => trivial) rfl rfl rfl (.inl rfl) ?_
                        refine RD.no (fun _ _ => trivial) rfl rfl rfl (.inl rfl) ?_
                        refine RD.no (fun _ _ => trivial) rfl rfl rfl (.inl rfl) ?_
                        refine RD.no (fun _ _ => trivial) rfl rfl rfl (.inl rfl) ?_
                        refine RD.no (fun _ _ => trivial) rfl rfl rfl (.inr (.inr rfl)) ?_
                        refine RD.no (fun _ _ => trivial) rfl rfl rfl (.inl rfl) ?_
                        refine RD.no (fun _ _ => trivial) rfl rfl rfl (.inr (.inr rfl)) ?_
                        refine RD.no (fun _ _ => trivial) rfl rfl rfl (.inl rfl) ?_
                        refine RD.no (fun _ _ => trivial) rfl rfl rfl (.inl rfl) ?_
                        refine RD.no (fun _ _ => trivial) rfl rfl rfl (.inl rfl) ?_
                        refine RD.no (fun _ _ => trivial) rfl rfl rfl (.inr (.inr rfl)) ?_
                        refine RD.no (fun _ _ => trivial) rfl rfl rfl (.inl rfl) ?_
                        refine RD.p (fun _ _ => trivial) rfl (Pu.pickF rfl rfl) rfl rfl ?_
                        exact hJ44 _ ⟨dAndF (bne_of hc43), rfl, rfl, rfl, rfl, rfl, rfl, rfl, rfl, trivial⟩
                  · intro z58 H hJ41
                    refine RD.split 63 rfl (fun hc40 => ?_) (fun hc40 => ?_)
                    · have H := ifT hc40 H
                      refine RD.p (fun _ _ => trivial) rfl (Pu.move rfl) rfl rfl ?_
                      refine RD.p (fun _ _ => trivial) rfl (Pu.move rfl) rfl rfl ?_
                      refine RD.p (fun _ _ => trivial) rfl (Pu.move rfl) rfl rfl ?_
                      obtain ⟨g59, H⟩ := gdE H
                      refine RD.p (fun _ _ => trivial) rfl (Pu.indexSl sl26 rfl rfl g59) rfl rfl ?_
                      refine RD.q (fun _ _ => trivial) rfl (Qt.ld0 (α := Int) (Rd.ofRowN 1 rfl) ty3 rfl rfl g59 (by rintro _ _ rfl; rfl)) rfl rfl ?_
                      obtain ⟨x60, hx60, H⟩ := bindE H
                      refine RD.q (fun _ _ => trivial) rfl (Qt.call ent34 rfl fun w s => throngref10_Of_walk a0_w (gi x25 v32) w  hx60) rfl rfl ?_
                      refine RD.p (fun _ _ => trivial) rfl (Pu.move rfl) rfl rfl ?_
                      refine RD.p (fun _ _ => trivial) rfl (Pu.move rfl) rfl rfl ?_
                      obtain ⟨x61, hx61, H⟩ := bindE H
                      refine RD.q (fun _ _ => trivial) rfl (Qt.call ent34 rfl fun w s => throngref10_Of_walk a0_w v16 w  hx61) rfl rfl ?_
                      refine RD.p (fun _ _ => trivial) rfl (Pu.bin rfl rfl rfl) rfl rfl ?_
                      refine RD.p (fun _ _ => trivial) rfl (Pu.pickT rfl rfl) rfl rfl ?_
                      obtain rfl := Option.some.inj H
                      exact hJ41 _ ⟨rfl, rfl, rfl, rfl, rfl, rfl, rfl, rfl, rfl, trivial⟩
                    · have H := ifB hc40 H
                      refine RD.no (fun _ _ => trivial) rfl rfl rfl (.inl rfl) ?_
                      refine RD.no (fun _ _ => trivial) rfl rfl rfl (.inl rfl) ?_
                      refine RD.no (fun _ _ => trivial) rfl rfl rfl (.inl rfl) ?_
                      refine RD.no (fun _ _ => trivial) rfl rfl rfl (.inl rfl) ?_
                      refine RD.no (fun _ _ => trivial) rfl rfl rfl (.inr (.inr rfl)) ?_
                      refine RD.no (fun _ _ => trivial) rfl rfl rfl (.inr (.inr rfl)) ?_
                      refine RD.no (fun _ _ => trivial) rfl rfl rfl (.inl rfl) ?_
                      refine RD.no (fun _ _ => trivial) rfl rfl rfl (.inl rfl) ?_
                      refine RD.no (fun _ _ => trivial) rfl rfl rfl (.inr (.inr rfl)) ?_
                      refine RD.no (fun _ _ => trivial) rfl rfl rfl (.inl rfl) ?_
                      refine RD.p (fun _ _ => trivial) rfl (Pu.pickF rfl rfl) rfl rfl ?_
                      obtain rfl := Option.some.inj H
                      exact hJ41 _ ⟨rfl, rfl, rfl, rfl, rfl, rfl, rfl, rfl, rfl, trivial⟩
                · have H := ifF hc35 H
                  obtain rfl := hd27 _ H
                  refine T.exitTo (by with_reducible (repeat (first | exact ExTo.here | exact ExTo.hereN | exact ExTo.deep (by repeat (first | exact NmTo.seq | apply NmTo.blk)) | apply ExTo.seq | refine ExTo.past (by decide) ?_))) (hJ27 _ _ (v31, l33) () HX27 ⟨rfl, rfl, rfl, rfl, rfl, trivial⟩ ⟨rfl, trivial⟩ (fun w s => s))
          · have H := ifF hc19 H
            obtain rfl := hd12 _ H
            refine T.exitTo (by with_reducible (repeat (first | exact ExTo.here | exact ExTo.hereN | exact ExTo.deep (by repeat (first | exact NmTo.seq | apply NmTo.blk)) | apply ExTo.seq | refine ExTo.past (by decide) ?_))) (hJ12 _ _ (v15, l17) () HX12 ⟨rfl, rfl, rfl, rfl, trivial⟩ ⟨rfl, trivial⟩ (fun w s => s))
      · have H := ifB hc11 H
        obtain rfl := hd6 _ H
        refine T.exitTo (by with_reducible (repeat (first | exact ExTo.here | exact ExTo.hereN | exact ExTo.deep (by repeat (first | exact NmTo.seq | apply NmTo.blk)) | apply ExTo.seq | refine ExTo.past (by decide) ?_))) (hJ6 _ _ l9 () HX6 ⟨rfl, trivial⟩ trivial (fun w s => s))
  · intro z4 hz4 HX4 hJ4
    refine T.block ?_
    refine T.loopA (γ := Unit) hz4 [(0, _), (1, _), (2, _), (7, _)] (fun (v62, l63) _ => [(8, .int .i64 v62)]) (fun (v62, l63) _ => Sat w [row nilH 3 (rowV (some b2, (a0_w * a1_h).toNat) ((a0_w * a1_h).toNat)) l63]) () ⟨rfl, rfl, rfl, rfl, trivial⟩ ⟨rfl, trivial⟩ (fun w s => s) ?_
    rintro ⟨v62, l63⟩ ⟨⟩ y64 H hd4 KL4 hL4
    try dsimp only [Ex.then] at H
    refine T.conseq (fr' := [(8, _), (0, _), (1, _), (2, _), (7, _)]) ?_ ⟨rfl, rfl, rfl, rfl, rfl, trivial⟩ (fun _ s => s)
    refine T.seq fun K24 hK24 => ?_
    refine T.seq fun K25 hK25 => ?_
    refine T.region ?_
    refine RS.p (Pu.move rfl) rfl rfl ?_
    refine RS.p (Pu.move rfl) rfl rfl ?_
    refine RS.p (Pu.lenSl sl26 rfl) rfl rfl ?_
    refine RS.p (Pu.bin rfl rfl rfl) rfl rfl ?_
    refine RS.nil (hK25 _ _ ?_)
    refine T.condP rfl (fun hc65 => ?_) (fun hc65 => ?_)
    · have H := ifT hc65 H
      refine T.skip (hK24 _ _ (T.conseq (fr' := [(0, _), (1, _), (2, _), (7, _), (8, _)]) ?_ ⟨rfl, rfl, rfl, rfl, rfl, trivial⟩ (fun _ s => s)))
      refine T.seq fun K26 hK26 => ?_
      refine T.block ?_
      refine T.seq fun K27 hK27 => ?_
      refine T.region ?_
      refine RS.p (Pu.move rfl) rfl rfl ?_
      refine RS.p (Pu.move rfl) rfl rfl ?_
      obtain ⟨g66, H⟩ := gdE H
      refine RS.know (fun w s => s.row_fits (q := (some b2, (a0_w * a1_h).toNat)) (m := (a0_w * a1_h).toNat) (k := 0) rfl) fun hf67 => ?_
      refine RS.p (Pu.indexSl sl26 rfl rfl g66) rfl rfl ?_
      refine RS.solid (Sd.st0 (α := Int) 0 (-1) rfl ty3 rfl rfl rfl (idx_of hf67.1 g66) rfl rfl (by decide) rfl (by rintro _ _ rfl; rfl)) rfl rfl fun _ => ?_
      refine RS.nil (hK27 _ _ (T.conseq (fr' := [(0, _), (1, _), (2, _), (7, _), (8, _)]) ?_ ⟨rfl, rfl, rfl, rfl, rfl, trivial⟩ (fun _ s => s)))
      refine T.seq fun K28 hK28 => ?_
      refine T.region ?_
      refine RS.p (Pu.move rfl) rfl rfl ?_
      refine RS.p (Pu.move rfl) rfl rfl ?_
      obtain ⟨g68, H⟩ := gdE H
      obtain ⟨bl69, ol70, rfl⟩ := R_ptr h0 (ne_of_pos (pos_of g68))
      refine RS.p (Pu.indexSl sl39 rfl rfl g68) rfl rfl ?_
      refine RS.q (Qt.ld0 (α := Bool) (Rd.base h0) ty4 rfl rfl g68 (by rintro _ _ rfl; rfl)) rfl rfl ?_
      refine RS.nil (hK28 _ _ ?_)
      refine T.cond rfl (fun hc71 => ?_) (fun hc71 => ?_)
      · have H := ifT hc71 H
        refine T.conseq (fr' := [(0, _), (1, _), (2, _), (7, _), (8, _)]) ?_ ⟨rfl, rfl, rfl, rfl, rfl, trivial⟩ (fun _ s => s)
        refine T.region ?_
        refine RS.p (Pu.move rfl) rfl rfl ?_
        refine RS.p (Pu.move rfl) rfl rfl ?_
        refine RS.p (Pu.move rfl) rfl rfl ?_
        obtain ⟨g72, H⟩ := gdE H
        refine RS.know (fun w s => s.row_fits (q := (some b2, (a0_w * a1_h).toNat)) (m := (a0_w * a1_h).toNat) (k := 0) rfl) fun hf73 => ?_
        refine RS.p (Pu.indexSl sl26 rfl rfl g72) rfl rfl ?_
        refine RS.solid (Sd.st0 (α := Int) 0 v62 rfl ty3 rfl rfl rfl (idx_of hf73.1 g72) rfl rfl (by decide) rfl (by rintro _ _ rfl; rfl)) rfl rfl fun _ => ?_
        refine RS.nil (hK26 _ _ (T.conseq (fr' := [(0, _), (1, _), (2, _), (7, _), (8, _)]) ?_ ⟨rfl, rfl, rfl, rfl, rfl, trivial⟩ (fun _ s => s)))
        refine T.region ?_
        refine RS.p (Pu.move rfl) rfl rfl ?_
        obtain ⟨g74, H⟩ := gdE H
        refine RS.p (Pu.addS rfl rfl g74) rfl rfl ?_
        refine RS.p (Pu.assign rfl) rfl rfl ?_
        refine RS.nil (hL4 _ _ ((v62 + 1), (si (si l63 v62 (-1)) v62 v62)) () H ⟨rfl, rfl, rfl, rfl, trivial⟩ ⟨rfl, trivial⟩ (fun w s => s))
      · have H := ifB hc71 H
        refine T.skip (hK26 _ _ (T.conseq (fr' := [(0, _), (1, _), (2, _), (7, _), (8, _)]) ?_ ⟨rfl, rfl, rfl, rfl, rfl, trivial⟩ (fun _ s => s)))
        refine T.region ?_
        refine RS.p (Pu.move rfl) rfl rfl ?_
        obtain ⟨g75, H⟩ := gdE H
        refine RS.p (Pu.addS rfl rfl g75) rfl rfl ?_
        refine RS.p (Pu.assign rfl) rfl rfl ?_
        refine RS.nil (hL4 _ _ ((v62 + 1), (si l63 v62 (-1))) () H ⟨rfl, rfl, rfl, rfl, trivial⟩ ⟨rfl, trivial⟩ (fun w s => s))
    · have H := ifF hc65 H
      obtain rfl := hd4 _ H
      refine T.exitTo (by with_reducible (repeat (first | exact ExTo.here | exact ExTo.hereN | exact ExTo.deep (by repeat (first | exact NmTo.seq | apply NmTo.blk)) | apply ExTo.seq | refine ExTo.past (by decide) ?_))) (hJ4 _ _ l63 () HX4 ⟨rfl, rfl, rfl, rfl, trivial⟩ trivial (fun w s => s))
theorem throngref10_Redo_walk (a0_w : Int) (a1_h : Int) (a2_free : List Bool) (a3_parts : List Int) (a4_t : Int) (w : World) {v0 v1 : Value} (h0 : R (hpOf w) a2_free [v0]) (h1 : R (hpOf w) a3_parts [v1]) {r : List Int} (H : throngref10_Redo a0_w a1_h a2_free a3_parts a4_t = some r) : Calls Try.prog 36 #[.int .i64 a0_w, .int .i64 a1_h, v0, v1, .int .i64 a4_t] w fun e w' => ∃ q1 : (Option Nat × Nat), e = .returned (rowV q1 r.length) ∧ Sat w [row nilH 3 (rowV q1 r.length) r] w' := by
  have hm0 := R_max h0
  obtain ⟨p0, c0, rfl⟩ := R_form h0
  have hm1 := R_max h1
  obtain ⟨p1, c1, rfl⟩ := R_form h1
  unfold throngref10_Redo at H
  refine T.enter (args := [_, _, _, _, _]) (S := Sat w []) Try.func36 rfl rfl (Sat.start w) ?_
  refine T.seq fun K1 hK1 => ?_
  refine T.region ?_
  refine RS.p (Pu.assign rfl) rfl rfl ?_
  refine RS.nil (hK1 _ _ ?_)
  refine T.seq fun K2 hK2 => ?_
  refine T.region ?_
  refine RS.p (Pu.move rfl) rfl rfl ?_
  refine RS.p (Pu.move rfl) rfl rfl ?_
  refine RS.p (Pu.move rfl) rfl rfl ?_
  obtain ⟨x1, hx1, H⟩ := bindE H
  refine RS.solid (Sd.callN ent25 rfl (fun w s => throngref10_Parts_walk a0_w a1_h a2_free w ((Rd.base h0) w s) hx1)) rfl rfl fun q2 => ?_
  refine RS.p (Pu.assign rfl) rfl rfl ?_
  refine RS.nil (hK2 _ _ (T.conseq (fr' := [(0, _), (3, _), (4, _), (11, _)]) ?_ ⟨rfl, rfl, rfl, rfl, trivial⟩ (fun _ s => s)))
  refine T.seq fun K3 hK3 => ?_
  refine T.region ?_
  refine RS.p (Pu.move rfl) rfl rfl ?_
  obtain ⟨x3, hx3, H⟩ := bindE H
  refine RS.solid (Sd.callN ent37 rfl (fun w s => throngref0_CopyNumbers_walk a3_parts w ((Rd.base h1) w s) hx3)) rfl rfl fun q4 => ?_
  refine RS.p (Pu.assign rfl) rfl rfl ?_
  refine RS.nil (hK3 _ _ (T.conseq (fr' := [(0, _), (4, _), (11, _), (12, _)]) ?_ ⟨rfl, rfl, rfl, rfl, trivial⟩ (fun _ s => s)))
  refine T.seq fun K4 hK4 => ?_
  refine T.seq fun K5 hK5 => ?_
  refine T.region ?_
  refine RS.p (Pu.assign rfl) rfl rfl ?_
  refine RS.nil (hK5 _ _ ?_)
  refine T.joinE (σ := List Int) (γ := Unit) H (fun s => s) [(12, _)] ⟨rfl, trivial⟩ (fun v6 _ => []) (fun v6 _ => Sat w [row nilH 3 (rowV q2 x1.length) x1, row nilH 3 (rowV q4 x3.length) v6]) ?_ ?_
  · rintro v6 ⟨⟩ H
    try dsimp only [Ex.then] at H
    refine Cont.conseq (fr' := [(12, _)]) ?_ ⟨rfl, trivial⟩ (fun _ s => s)
    refine id (hK4 _ _ ?_)
    refine T.seq fun K6 hK6 => ?_
    refine T.region ?_
    refine RS.p (Pu.move rfl) rfl rfl ?_
    refine RS.p (Pu.assign rfl) rfl rfl ?_
    refine RS.nil (hK6 _ _ ?_)
    obtain rfl := Option.some.inj H
    refine T.retTo (by with_reducible ((repeat (first | apply RetTo.seq | apply RetTo.blk)); exact RetTo.refl _)) (Cont.ret1 rfl rfl fun w' s => ?_)
    exact ⟨q4, (by simp only [(s.row_fits (q := q4) (m := x3.length) (k := 1) rfl).1]; try rfl), (Sat.relen (q := q4) (m := x3.length) 1 s rfl).pick [1] (by decide) rfl⟩
  · intro z5 hz5 HX5 hJ5
    refine T.block ?_
    refine T.loopA (γ := Unit) hz5 [(0, _), (4, _), (11, _), (12, _)] (fun (v7, l8) _ => [(13, .int .i64 v7)]) (fun (v7, l8) _ => Sat w [row nilH 3 (rowV q2 x1.length) x1, row nilH 3 (rowV q4 x3.length) l8]) () ⟨rfl, rfl, rfl, rfl, trivial⟩ ⟨rfl, trivial⟩ (fun w s => s) ?_
    rintro ⟨v7, l8⟩ ⟨⟩ y9 H hd5 KL5 hL5
    try dsimp only [Ex.then] at H
    refine T.conseq (fr' := [(13, _), (0, _), (4, _), (11, _), (12, _)]) ?_ ⟨rfl, rfl, rfl, rfl, rfl, trivial⟩ (fun _ s => s)
    refine T.seq fun K7 hK7 => ?_
    refine T.seq fun K8 hK8 => ?_
    refine T.region ?_
    refine RS.p (Pu.move rfl) rfl rfl ?_
    refine RS.p (Pu.move rfl) rfl rfl ?_
    refine RS.p (Pu.lenSl sl26 rfl) rfl rfl ?_
    refine RS.p (Pu.bin rfl rfl rfl) rfl rfl ?_
    refine RS.nil (hK8 _ _ ?_)
    refine T.condP rfl (fun hc10 => ?_) (fun hc10 => ?_)
    · have H := ifT hc10 H
      refine T.skip (hK7 _ _ (T.conseq (fr' := [(0, _), (4, _), (11, _), (12, _), (13, _)]) ?_ ⟨rfl, rfl, rfl, rfl, rfl, trivial⟩ (fun _ s => s)))
      refine T.seq fun K9 hK9 => ?_
      refine T.block ?_
      refine T.seq fun K10 hK10 => ?_
      refine T.region ?_
      refine RS.p (Pu.move rfl) rfl rfl ?_
      refine RS.p (Pu.move rfl) rfl rfl ?_
      obtain ⟨x11, hx11, H⟩ := bindE H
      refine RS.q (Qt.call ent34 rfl fun w s => throngref10_Of_walk a0_w v7 w  hx11) rfl rfl ?_
      refine RS.p (Pu.move rfl) rfl rfl ?_
      refine RS.p (Pu.move rfl) rfl rfl ?_
      obtain ⟨x12, hx12, H⟩ := bindE H
      refine RS.q (Qt.call ent34 rfl fun w s => throngref10_Of_walk a0_w a4_t w  hx12) rfl rfl ?_
      refine RS.p (Pu.bin rfl rfl rfl) rfl rfl ?_
      refine RS.nil (hK10 _ _ ?_)
      refine T.condP rfl (fun hc13 => ?_) (fun hc13 => ?_)
      · have H := ifT hc13 H
        refine T.conseq (fr' := [(0, _), (4, _), (11, _), (12, _), (13, _)]) ?_ ⟨rfl, rfl, rfl, rfl, rfl, trivial⟩ (fun _ s => s)
        refine T.region ?_
        refine RS.p (Pu.move rfl) rfl rfl ?_
        refine RS.p (Pu.move rfl) rfl rfl ?_
        refine RS.p (Pu.move rfl) rfl rfl ?_
        refine RS.p (Pu.move rfl) rfl rfl ?_
        obtain ⟨g14, H⟩ := gdE H
        refine RS.know (p := ∃ g cap, q2 = (some g, cap)) (fun w s => s.row_some (k := 0) rfl (pos_of g14)) ?_
        rintro ⟨gg15, cc16, rfl⟩
        refine RS.p (Pu.indexSl sl26 rfl rfl g14) rfl rfl ?_
        refine RS.q (Qt.ld0 (α := Int) (Rd.ofRowN 0 rfl) ty3 rfl rfl g14 (by rintro _ _ rfl; rfl)) rfl rfl ?_
        obtain ⟨g17, H⟩ := gdE H
        refine RS.know (fun w s => s.row_fits (q := q4) (m := x3.length) (k := 1) rfl) fun hf18 => ?_
        refine RS.know (p := ∃ g cap, q4 = (some g, cap)) (fun w s => s.row_some (k := 1) rfl (pos_of (idx_of hf18.1 g17))) ?_
        rintro ⟨gg19, cc20, rfl⟩
        refine RS.p (Pu.indexSl sl26 rfl rfl g17) rfl rfl ?_
        refine RS.solid (Sd.st0 (α := Int) 1 (gi x1 v7) rfl ty3 rfl rfl rfl (idx_of hf18.1 g17) rfl rfl (by decide) rfl (by rintro _ _ rfl; rfl)) rfl rfl fun _ => ?_
        refine RS.nil (hK9 _ _ (T.conseq (fr' := [(0, _), (4, _), (11, _), (12, _), (13, _)]) ?_ ⟨rfl, rfl, rfl, rfl, rfl, trivial⟩ (fun _ s => s)))
        refine T.region ?_
        refine RS.p (Pu.move rfl) rfl rfl ?_
        obtain ⟨g21, H⟩ := gdE H
        refine RS.p (Pu.addS rfl rfl g21) rfl rfl ?_
        refine RS.p (Pu.assign rfl) rfl rfl ?_
        refine RS.nil (hL5 _ _ ((v7 + 1), (si l8 v7 (gi x1 v7))) () H ⟨rfl, rfl, rfl, rfl, trivial⟩ ⟨rfl, trivial⟩ (fun w s => s))
      · have H := ifF hc13 H
        refine T.skip (hK9 _ _ (T.conseq (fr' := [(0, _), (4, _), (11, _), (12, _), (13, _)]) ?_ ⟨rfl, rfl, rfl, rfl, rfl, trivial⟩ (fun _ s => s)))
        refine T.region ?_
        refine RS.p (Pu.move rfl) rfl rfl ?_
        obtain ⟨g22, H⟩ := gdE H
        refine RS.p (Pu.addS rfl rfl g22) rfl rfl ?_
        refine RS.p (Pu.assign rfl) rfl rfl ?_
        refine RS.nil (hL5 _ _ ((v7 + 1), l8) () H ⟨rfl, rfl, rfl, rfl, trivial⟩ ⟨rfl, trivial⟩ (fun w s => s))
    · have H := ifF hc10 H
      obtain rfl := hd5 _ H
      refine T.exitTo (by with_reducible (repeat (first | exact ExTo.here | exact ExTo.hereN | exact ExTo.deep (by repeat (first | exact NmTo.seq | apply NmTo.blk)) | apply ExTo.seq | refine ExTo.past (by decide) ?_))) (hJ5 _ _ l8 () HX5 ⟨rfl, trivial⟩ trivial (fun w s => s))
theorem sector_Parts_walk (a0_w : Int) (a1_h : Int) (a2_free : List Bool) (w : World) {v0 : Value} (h0 : R (hpOf w) a2_free [v0]) {r : List Int × Int} (H : sector_Parts a0_w a1_h a2_free = some r) : Calls Try.prog 27 #[.int .i64 a0_w, .int .i64 a1_h, v0] w fun e w' => ∃ q1 : (Option Nat × Nat), e = .returned (.tuple #[rowV q1 r.1.length, .int .i64 r.2]) ∧ Sat w [row nilH 3 (rowV q1 r.1.length) r.1] w' := by
  have hm0 := R_max h0
  obtain ⟨p0, c0, rfl⟩ := R_form h0
  unfold sector_Parts at H
  refine T.enter (args := [_, _, _]) (S := Sat w []) Try.func27 rfl rfl (Sat.start w) ?_
  refine T.seq fun K1 hK1 => ?_
  refine T.region ?_
  refine RS.p (Pu.assign rfl) rfl rfl ?_
  refine RS.p (Pu.assign rfl) rfl rfl ?_
  refine RS.nil (hK1 _ _ ?_)
  refine T.seq fun K2 hK2 => ?_
  refine T.seq fun K3 hK3 => ?_
  refine T.region ?_
  refine RS.p (Pu.move rfl) rfl rfl ?_
  refine RS.p (Pu.move rfl) rfl rfl ?_
  obtain ⟨x1, hx1, H⟩ := bindE H
  refine RS.q (Qt.call ent58 rfl fun w s => sector_May_walk a0_w a1_h w  hx1) rfl rfl ?_
  refine RS.p (Pu.not rfl) rfl rfl ?_
  refine RS.p (Pu.move rfl) rfl rfl ?_
  obtain ⟨g4, H⟩ := gdE H
  refine RS.joinV 7 21 (.bool (decide (((!x1) = true) ∨ (¬ (a2_free.length : Int) = (a0_w * a1_h))))) [(0, _), (1, _), (2, _)] ⟨rfl, rfl, rfl, trivial⟩ ?_ ?_
  · refine RS.nil (hK3 _ _ ?_)
    refine T.condP rfl (fun hc5 => ?_) (fun hc5 => ?_)
    · have H := ifT hc5 H
      refine T.conseq (fr' := []) ?_ trivial (fun _ s => s)
      refine T.seq fun K4 hK4 => ?_
      refine T.region ?_
      refine RS.p (Pu.assign rfl) rfl rfl ?_
      refine RS.p (Pu.assign rfl) rfl rfl ?_
      refine RS.nil (hK4 _ _ ?_)
      obtain rfl := Option.some.inj H
      refine T.retTo (by with_reducible ((repeat (first | apply RetTo.seq | apply RetTo.blk)); exact RetTo.refl _)) (Cont.ret2 rfl rfl rfl fun w' s => ?_)
      exact ⟨(none, 0), rfl, (s.nilRow (α := Int) 3).pick [0] (by decide) rfl⟩
    · have H := ifF hc5 H
      refine T.skip (hK2 _ _ ?_)
      refine T.seq fun K5 hK5 => ?_
      refine T.region ?_
      refine RS.solid (Sd.litS (cs := [_]) sl26 zr3 rfl rfl rfl rfl rfl) rfl rfl fun b6 => ?_
      refine RS.weakS (fun w s => s.litRow (α := Int) (n := 1) 0 [(-1)] rfl (by decide) rfl ⟨[_], _, rfl, rfl, rfl⟩) ?_
      refine RS.p (Pu.move rfl) rfl rfl ?_
      refine RS.p (Pu.move rfl) rfl rfl ?_
      obtain ⟨g7, H⟩ := gdE H
      refine RS.p (Pu.mulS rfl rfl g7) rfl rfl ?_
      obtain ⟨x8, hx8, H⟩ := bindE H
      refine RS.solid (Sd.callN ent59 rfl (fun w s => slices_Repeat_walk [(-1)] (a0_w * a1_h) w ((Rd.ofRowN 0 rfl) w s) hx8)) rfl rfl fun q9 => ?_
      refine RS.p (Pu.assign rfl) rfl rfl ?_
      refine RS.nil (hK5 _ _ (T.conseq (fr' := [(0, _), (1, _), (2, _), (8, _)]) ?_ ⟨rfl, rfl, rfl, rfl, trivial⟩ (fun _ s => s)))
      refine T.seq fun K6 hK6 => ?_
      refine T.seq fun K7 hK7 => ?_
      refine T.region ?_
      refine RS.p (Pu.move rfl) rfl rfl ?_
      obtain ⟨x10, hx10, H⟩ := bindE H
      refine RS.q (Qt.call ent60 rfl fun w s => sector_across_walk a0_w w  hx10) rfl rfl ?_
      refine RS.p (Pu.move rfl) rfl rfl ?_
      obtain ⟨x11, hx11, H⟩ := bindE H
      refine RS.q (Qt.call ent60 rfl fun w s => sector_across_walk a1_h w  hx11) rfl rfl ?_
      obtain ⟨g12, H⟩ := gdE H
      refine RS.p (Pu.mulS rfl rfl g12) rfl rfl ?_
      refine RS.p (Pu.move rfl) rfl rfl ?_
      refine RS.nil (hK7 _ _ (T.conseq (fr' := [(0, _), (1, _), (2, _), (8, _), (31, _), (32, _)]) ?_ ⟨rfl, rfl, rfl, rfl, rfl, rfl, trivial⟩ (fun _ s => s)))
      refine T.joinE (σ := List Int) (γ := Unit) H (fun s => s) [(8, _)] ⟨rfl, trivial⟩ (fun v14 _ => []) (fun v14 _ => Sat w [row nilH 3 (rowV (some b6, 1) 1) [(-1)], row nilH 3 (rowV q9 x8.length) v14]) ?_ ?_
      · rintro v14 ⟨⟩ H
        try dsimp only [Ex.then] at H
        refine Cont.conseq (fr' := [(8, _)]) ?_ ⟨rfl, trivial⟩ (fun _ s => s)
        refine id (hK6 _ _ ?_)
        refine T.seq fun K8 hK8 => ?_
        refine T.region ?_
        refine RS.p (Pu.move rfl) rfl rfl ?_
        refine RS.p (Pu.assign rfl) rfl rfl ?_
        refine RS.p (Pu.assign rfl) rfl rfl ?_
        refine RS.nil (hK8 _ _ ?_)
        obtain rfl := Option.some.inj H
        refine T.retTo (by with_reducible ((repeat (first | apply RetTo.seq | apply RetTo.blk)); exact RetTo.refl _)) (Cont.ret2 rfl rfl rfl fun w' s => ?_)
        exact ⟨q9, (by simp only [(s.row_fits (q := q9) (m := x8.length) (k := 1) rfl).1]; try rfl), (Sat.relen (q := q9) (m := x8.length) 1 s rfl).pick [1] (by decide) rfl⟩
      · intro z13 hz13 HX13 hJ13
        refine T.block ?_
        refine T.loopA (γ := Unit) hz13 [(0, _), (1, _), (2, _), (8, _), (31, _)] (fun (v15, l16) _ => [(32, .int .i64 v15)]) (fun (v15, l16) _ => Sat w [row nilH 3 (rowV (some b6, 1) 1) [(-1)], row nilH 3 (rowV q9 x8.length) l16]) () ⟨rfl, rfl, rfl, rfl, rfl, trivial⟩ ⟨rfl, trivial⟩ (fun w s => s) ?_
        rintro ⟨v15, l16⟩ ⟨⟩ y17 H hd13 KL13 hL13
        try dsimp only [Ex.then] at H
        refine T.conseq (fr' := [(32, _), (0, _), (1, _), (2, _), (8, _), (31, _)]) ?_ ⟨rfl, rfl, rfl, rfl, rfl, rfl, trivial⟩ (fun _ s => s)
        refine T.seq fun K9 hK9 => ?_
        refine T.region ?_
        refine RS.p (Pu.bin rfl rfl rfl) rfl rfl ?_
        refine RS.nil (hK9 _ _ ?_)
        refine T.seq fun K10 hK10 => ?_
        refine T.condP rfl (fun hc18 => ?_) (fun hc18 => ?_)
        · have H := ifT hc18 H
          refine T.skip (hK10 _ _ ?_)
          refine T.seq fun K11 hK11 => ?_
          refine T.block ?_
          refine T.seq fun K12 hK12 => ?_
          refine T.region ?_
          refine RS.p (Pu.move rfl) rfl rfl ?_
          refine RS.p (Pu.assign rfl) rfl rfl ?_
          refine RS.nil (hK12 _ _ ?_)
          refine T.region ?_
          refine RS.p (Pu.move rfl) rfl rfl ?_
          refine RS.p (Pu.move rfl) rfl rfl ?_
          refine RS.p (Pu.move rfl) rfl rfl ?_
          refine RS.p (Pu.move rfl) rfl rfl ?_
          refine RS.p (Pu.move rfl) rfl rfl ?_
          obtain ⟨x19, hx19, H⟩ := bindE H
          refine RS.know (fun w s => s.row_fits (q := q9) (m := x8.length) (k := 1) rfl) fun hf20 => ?_
          refine RS.solid (Sd.callU 1 ent61 rfl rfl (fun F w s => sector_redo_walk a0_w a1_h a2_free l16 v15 hf20.1 h0 hx19 w s)) rfl rfl fun _ => ?_
          refine RS.nil (hK11 _ _ (T.conseq (fr' := [(0, _), (1, _), (2, _), (8, _), (31, _), (32, _)]) ?_ ⟨rfl, rfl, rfl, rfl, rfl, rfl, trivial⟩ (fun _ s => s)))
          refine T.region ?_
          obtain ⟨g21, H⟩ := gdE H
          refine RS.p (Pu.addS rfl rfl g21) rfl rfl ?_
          refine RS.p (Pu.move rfl) rfl rfl ?_
          refine RS.nil (hL13 _ _ ((v15 + 1), x19) () H ⟨rfl, rfl, rfl, rfl, rfl, trivial⟩ ⟨rfl, trivial⟩ (fun w s => s))
        · have H := ifF hc18 H
          obtain rfl := hd13 _ H
          refine T.exitTo (by with_reducible (repeat (first | exact ExTo.here | exact ExTo.hereN | exact ExTo.deep (by repeat (first | exact NmTo.seq | apply NmTo.blk)) | apply ExTo.seq | refine ExTo.past (by decide) ?_))) (hJ13 _ _ l16 () HX13 ⟨rfl, trivial⟩ trivial (fun w s => s))
  · intro hJ3
    refine RS.split 14 rfl (fun hc2 => ?_) (fun hc2 => ?_)
    · refine RS.no rfl rfl ?_
      refine RS.no rfl rfl ?_
      refine RS.no rfl rfl ?_
      refine RS.no rfl rfl ?_
      refine RS.no rfl rfl ?_
      refine RS.no rfl rfl ?_
      refine RS.p (Pu.pickT rfl rfl) rfl rfl ?_
      exact hJ3 _ _ ⟨dOrT hc2, rfl, rfl, rfl, trivial⟩ (fun w s => s)
    · refine RS.p (Pu.move rfl) rfl rfl ?_
      refine RS.p (Pu.lenSl sl39 rfl) rfl rfl ?_
      refine RS.p (Pu.move rfl) rfl rfl ?_
      refine RS.p (Pu.move rfl) rfl rfl ?_
      refine RS.p (Pu.mulS rfl rfl (g4 (bne_of hc2))) rfl rfl ?_
      refine RS.p (Pu.bin rfl rfl rfl) rfl rfl ?_
      refine RS.p (Pu.pickF rfl rfl) rfl rfl ?_
      exact hJ3 _ _ ⟨dOrF (bne_of hc2), rfl, rfl, rfl, trivial⟩ (fun w s => s)
theorem sector_Redo_walk (a0_w : Int) (a1_h : Int) (a2_free : List Bool) (a3_parts : List Int) (a4_t : Int) (w : World) {v0 v1 : Value} (h0 : R (hpOf w) a2_free [v0]) (h1 : R (hpOf w) a3_parts [v1]) {r : List Int × Int} (H : sector_Redo a0_w a1_h a2_free a3_parts a4_t = some r) : Calls Try.prog 38 #[.int .i64 a0_w, .int .i64 a1_h, v0, v1, .int .i64 a4_t] w fun e w' => ∃ q1 : (Option Nat × Nat), e = .returned (.tuple #[rowV q1 r.1.length, .int .i64 r.2]) ∧ Sat w [row nilH 3 (rowV q1 r.1.length) r.1] w' := by
  have hm0 := R_max h0
  obtain ⟨p0, c0, rfl⟩ := R_form h0
  have hm1 := R_max h1
  obtain ⟨p1, c1, rfl⟩ := R_form h1
  unfold sector_Redo at H
  refine T.enter (args := [_, _, _, _, _]) (S := Sat w []) Try.func38 rfl rfl (Sat.start w) ?_
  refine T.seq fun K1 hK1 => ?_
  refine T.region ?_
  refine RS.p (Pu.assign rfl) rfl rfl ?_
  refine RS.p (Pu.assign rfl) rfl rfl ?_
  refine RS.nil (hK1 _ _ ?_)
  refine T.seq fun K2 hK2 => ?_
  refine T.block ?_
  refine T.seq fun K3 hK3 => ?_
  refine T.region ?_
  refine RS.p (Pu.move rfl) rfl rfl ?_
  refine RS.p (Pu.move rfl) rfl rfl ?_
  obtain ⟨x1, hx1, H⟩ := bindE H
  refine RS.q (Qt.call ent58 rfl fun w s => sector_May_walk a0_w a1_h w  hx1) rfl rfl ?_
  refine RS.p (Pu.not rfl) rfl rfl ?_
  refine RS.p (Pu.move rfl) rfl rfl ?_
  obtain ⟨g4, H⟩ := gdE H
  refine RS.joinV 7 24 (.bool (decide (((!x1) = true) ∨ (¬ (a2_free.length : Int) = (a0_w * a1_h))))) [(0, _), (1, _), (2, _), (3, _), (4, _)] ⟨rfl, rfl, rfl, rfl, rfl, trivial⟩ ?_ ?_
  · refine RS.p (Pu.move rfl) rfl rfl ?_
    obtain ⟨g7, H⟩ := gdE H
    refine RS.joinV 7 32 (.bool (decide ((((!x1) = true) ∨ (¬ (a2_free.length : Int) = (a0_w * a1_h))) ∨ (¬ (a3_parts.length : Int) = (a0_w * a1_h))))) [(0, _), (1, _), (2, _), (3, _), (4, _)] ⟨rfl, rfl, rfl, rfl, rfl, trivial⟩ ?_ ?_
    · refine RS.p (Pu.assign rfl) rfl rfl ?_
      refine RS.nil (hK3 _ _ ?_)
      refine T.condP rfl (fun hc8 => ?_) (fun hc8 => ?_)
      · have H := ifT hc8 H
        refine T.conseq (fr' := []) ?_ trivial (fun _ s => s)
        refine T.seq fun K4 hK4 => ?_
        refine T.region ?_
        refine RS.p (Pu.assign rfl) rfl rfl ?_
        refine RS.p (Pu.assign rfl) rfl rfl ?_
        refine RS.nil (hK4 _ _ ?_)
        obtain rfl := Option.some.inj H
        refine T.retTo (by with_reducible ((repeat (first | apply RetTo.seq | apply RetTo.blk)); exact RetTo.refl _)) (Cont.ret2 rfl rfl rfl fun w' s => ?_)
        exact ⟨(none, 0), rfl, (s.nilRow (α := Int) 3).pick [0] (by decide) rfl⟩
      · have H := ifF hc8 H
        refine T.seq fun K5 hK5 => ?_
        refine T.region ?_
        refine RS.p (Pu.move rfl) rfl rfl ?_
        refine RS.p (Pu.bin rfl rfl rfl) rfl rfl ?_
        refine RS.p (Pu.move rfl) rfl rfl ?_
        obtain ⟨g11, H⟩ := gdE H
        refine RS.joinV 6 42 (.bool (decide ((a4_t < 0) ∨ ((a0_w * a1_h) ≤ a4_t)))) [(0, _), (1, _), (2, _), (3, _), (4, _)] ⟨rfl, rfl, rfl, rfl, rfl, trivial⟩ ?_ ?_
        · refine RS.p (Pu.assign rfl) rfl rfl ?_
          refine RS.nil (hK5 _ _ ?_)
          refine T.condP rfl (fun hc12 => ?_) (fun hc12 => ?_)
          · have H := ifT hc12 H
            refine T.conseq (fr' := []) ?_ trivial (fun _ s => s)
            refine T.seq fun K6 hK6 => ?_
            refine T.region ?_
            refine RS.p (Pu.assign rfl) rfl rfl ?_
            refine RS.p (Pu.assign rfl) rfl rfl ?_
            refine RS.nil (hK6 _ _ ?_)
            obtain rfl := Option.some.inj H
            refine T.retTo (by with_reducible ((repeat (first | apply RetTo.seq | apply RetTo.blk)); exact RetTo.refl _)) (Cont.ret2 rfl rfl rfl fun w' s => ?_)
            exact ⟨(none, 0), rfl, (s.nilRow (α := Int) 3).pick [0] (by decide) rfl⟩
          · have H := ifF hc12 H
            refine T.skip (hK2 _ _ ?_)
            refine T.seq fun K7 hK7 => ?_
            refine T.region ?_
            refine RS.p (Pu.move rfl) rfl rfl ?_
            obtain ⟨x13, hx13, H⟩ := bindE H
            refine RS.solid (Sd.callN ent63 rfl (fun w s => slices_Clone_walk a3_parts w ((Rd.base h1) w s) hx13)) rfl rfl fun q14 => ?_
            refine RS.p (Pu.assign rfl) rfl rfl ?_
            refine RS.nil (hK7 _ _ (T.conseq (fr' := [(0, _), (1, _), (2, _), (3, _), (4, _)]) ?_ ⟨rfl, rfl, rfl, rfl, rfl, trivial⟩ (fun _ s => s)))
            refine T.seq fun K8 hK8 => ?_
            refine T.region ?_
            refine RS.p (Pu.move rfl) rfl rfl ?_
            refine RS.p (Pu.move rfl) rfl rfl ?_
            refine RS.p (Pu.move rfl) rfl rfl ?_
            refine RS.p (Pu.move rfl) rfl rfl ?_
            refine RS.p (Pu.move rfl) rfl rfl ?_
            refine RS.p (Pu.move rfl) rfl rfl ?_
            obtain ⟨x15, hx15, H⟩ := bindE H
            refine RS.q (Qt.call ent62 rfl fun w s => sector_At_walk a0_w a4_t w  hx15) rfl rfl ?_
            obtain ⟨x16, hx16, H⟩ := bindE H
            refine RS.solid (Sd.callU 0 ent61 rfl rfl (fun F w s => sector_redo_walk a0_w a1_h a2_free x13 x15 rfl h0 hx16 w s)) rfl rfl fun _ => ?_
            refine RS.nil (hK8 _ _ (T.conseq (fr' := [(3, _)]) ?_ ⟨rfl, trivial⟩ (fun _ s => s)))
            refine T.seq fun K9 hK9 => ?_
            refine T.region ?_
            refine RS.p (Pu.move rfl) rfl rfl ?_
            refine RS.p (Pu.assign rfl) rfl rfl ?_
            refine RS.p (Pu.assign rfl) rfl rfl ?_
            refine RS.nil (hK9 _ _ ?_)
            obtain rfl := Option.some.inj H
            refine T.retTo (by with_reducible ((repeat (first | apply RetTo.seq | apply RetTo.blk)); exact RetTo.refl _)) (Cont.ret2 rfl rfl rfl fun w' s => ?_)
            exact ⟨q14, (by simp only [(s.row_fits (q := q14) (m := x13.length) (k := 0) rfl).1]; try rfl), (Sat.relen (q := q14) (m := x13.length) 0 s rfl).pick [0] (by decide) rfl⟩
        · intro hJ10
          refine RS.splitP 36 rfl (fun hc9 => ?_) (fun hc9 => ?_)
          · refine RS.no rfl rfl ?_
            refine RS.no rfl rfl ?_
            refine RS.no rfl rfl ?_
            refine RS.no rfl rfl ?_
            refine RS.no rfl rfl ?_
            refine RS.p (Pu.pickT rfl rfl) rfl rfl ?_
            exact hJ10 _ _ ⟨dOrT hc9, rfl, rfl, rfl, rfl, rfl, trivial⟩ (fun w s => s)
          · refine RS.p (Pu.move rfl) rfl rfl ?_
            refine RS.p (Pu.move rfl) rfl rfl ?_
            refine RS.p (Pu.move rfl) rfl rfl ?_
            refine RS.p (Pu.mulS rfl rfl (g11 hc9)) rfl rfl ?_
            refine RS.p (Pu.bin rfl rfl rfl) rfl rfl ?_
            refine RS.p (Pu.pickF rfl rfl) rfl rfl ?_
            exact hJ10 _ _ ⟨dOrF hc9, rfl, rfl, rfl, rfl, rfl, trivial⟩ (fun w s => s)
    · intro hJ6
      refine RS.splitP 25 rfl (fun hc5 => ?_) (fun hc5 => ?_)
      · refine RS.no rfl rfl ?_
        refine RS.no rfl rfl ?_
        refine RS.no rfl rfl ?_
        refine RS.no rfl rfl ?_
        refine RS.no rfl rfl ?_
        refine RS.no rfl rfl ?_
        refine RS.p (Pu.pickT rfl rfl) rfl rfl ?_
        exact hJ6 _ _ ⟨dOrT hc5, rfl, rfl, rfl, rfl, rfl, trivial⟩ (fun w s => s)
      · refine RS.p (Pu.move rfl) rfl rfl ?_
        refine RS.p (Pu.lenSl sl26 rfl) rfl rfl ?_
        refine RS.p (Pu.move rfl) rfl rfl ?_
        refine RS.p (Pu.move rfl) rfl rfl ?_
        refine RS.p (Pu.mulS rfl rfl (g7 hc5)) rfl rfl ?_
        refine RS.p (Pu.bin rfl rfl rfl) rfl rfl ?_
        refine RS.p (Pu.pickF rfl rfl) rfl rfl ?_
        exact hJ6 _ _ ⟨dOrF hc5, rfl, rfl, rfl, rfl, rfl, trivial⟩ (fun w s => s)
  · intro hJ3
    refine RS.split 17 rfl (fun hc2 => ?_) (fun hc2 => ?_)
    · refine RS.no rfl rfl ?_
      refine RS.no rfl rfl ?_
      refine RS.no rfl rfl ?_
      refine RS.no rfl rfl ?_
      refine RS.no rfl rfl ?_
      refine RS.no rfl rfl ?_
      refine RS.p (Pu.pickT rfl rfl) rfl rfl ?_
      exact hJ3 _ _ ⟨dOrT hc2, rfl, rfl, rfl, rfl, rfl, trivial⟩ (fun w s => s)
    · refine RS.p (Pu.move rfl) rfl rfl ?_
      refine RS.p (Pu.lenSl sl39 rfl) rfl rfl ?_
      refine RS.p (Pu.move rfl) rfl rfl ?_
      refine RS.p (Pu.move rfl) rfl rfl ?_
      refine RS.p (Pu.mulS rfl rfl (g4 (bne_of hc2))) rfl rfl ?_
      refine RS.p (Pu.bin rfl rfl rfl) rfl rfl ?_
      refine RS.p (Pu.pickF rfl rfl) rfl rfl ?_
      exact hJ3 _ _ ⟨dOrF (bne_of hc2), rfl, rfl, rfl, rfl, rfl, trivial⟩ (fun w s => s)
theorem thronglaw10_num_walk (a0_e : Int) (w : World) {r : Int} (H : thronglaw10_num a0_e = some r) : Calls Try.prog 28 #[.int .i64 a0_e] w fun e w' => e = .returned (.int .i64 r) ∧ Ext w w' := by
  unfold thronglaw10_num at H
  refine T.enter (args := [_]) (S := Sat w []) Try.func28 rfl rfl (Sat.start w) ?_
  refine T.seq fun K1 hK1 => ?_
  refine T.region ?_
  refine RS.p (Pu.assign rfl) rfl rfl ?_
  refine RS.nil (hK1 _ _ ?_)
  refine T.seq fun K2 hK2 => ?_
  refine T.region ?_
  refine RS.p (Pu.move rfl) rfl rfl ?_
  refine RS.p (Pu.assign rfl) rfl rfl ?_
  refine RS.nil (hK2 _ _ ?_)
  obtain rfl := Option.some.inj H
  refine T.retTo (by with_reducible ((repeat (first | apply RetTo.seq | apply RetTo.blk)); exact RetTo.refl _)) (Cont.ret1 rfl rfl fun w' s => ?_)
  exact ⟨rfl, s.ext⟩
theorem thronglaw10_wakes_walk (w : World) {r : Bool} (H : thronglaw10_wakes = some r) : Calls Try.prog 31 #[] w fun e w' => e = .returned (.bool r) ∧ Ext w w' := by
  unfold thronglaw10_wakes at H
  refine T.enter (args := []) (S := Sat w []) Try.func31 rfl rfl (Sat.start w) ?_
  refine T.seq fun K1 hK1 => ?_
  refine T.region ?_
  refine RS.p (Pu.assign rfl) rfl rfl ?_
  refine RS.nil (hK1 _ _ ?_)
  refine T.seq fun K2 hK2 => ?_
  refine T.region ?_
  refine RS.solid (Sd.litS (cs := [_, _]) sl39 zr4 rfl rfl rfl rfl rfl) rfl rfl fun b1 => ?_
  refine RS.weakS (fun w s => s.litRow (α := Bool) (n := 2) 0 [true, true] rfl (by decide) rfl ⟨[_], _, rfl, rfl, ⟨[_], _, rfl, rfl, rfl⟩⟩) ?_
  obtain ⟨x2, hx2, H⟩ := bindE H
  refine RS.solid (Sd.callN ent27 rfl (fun w s => sector_Parts_walk 2 1 [true, true] w ((Rd.ofRowN 0 rfl) w s) hx2)) rfl rfl fun q3 => ?_
  refine RS.p (Pu.move rfl) rfl rfl ?_
  refine RS.p (Pu.extract rfl rfl) rfl rfl ?_
  refine RS.p (Pu.extract rfl rfl) rfl rfl ?_
  refine RS.p (Pu.assign rfl) rfl rfl ?_
  refine RS.p (Pu.assign rfl) rfl rfl ?_
  refine RS.nil (hK2 _ _ (T.conseq (fr' := [(1, _), (2, _)]) ?_ ⟨rfl, rfl, trivial⟩ (fun _ s => s)))
  refine T.seq fun K3 hK3 => ?_
  refine T.region ?_
  refine RS.p (Pu.move rfl) rfl rfl ?_
  obtain ⟨x4, hx4, H⟩ := bindE H
  refine RS.q (Qt.call ent28 rfl fun w s => thronglaw10_num_walk x2.2 w  hx4) rfl rfl ?_
  refine RS.p (Pu.bin rfl rfl rfl) rfl rfl ?_
  refine RS.p (Pu.move rfl) rfl rfl ?_
  refine RS.joinB H 4 15 (fun b7 => .bool b7) [] trivial ?_ ?_
  · intro b7 H
    refine RS.p (Pu.assign rfl) rfl rfl ?_
    refine RS.nil (hK3 _ _ ?_)
    obtain rfl := Option.some.inj H
    refine T.retTo (by with_reducible ((repeat (first | apply RetTo.seq | apply RetTo.blk)); exact RetTo.refl _)) (Cont.ret1 rfl rfl fun w' s => ?_)
    exact ⟨rfl, s.ext⟩
  · intro z8 H hJ6
    refine RS.splitP 11 rfl (fun hc5 => ?_) (fun hc5 => ?_)
    · have H := ifT hc5 H
      refine RS.p (Pu.move rfl) rfl rfl ?_
      refine RS.solid (Sd.litS (cs := [_, _]) sl26 zr3 rfl rfl rfl rfl rfl) rfl rfl fun b9 => ?_
      refine RS.weakS (fun w s => s.litRow (α := Int) (n := 2) 2 [0, 0] rfl (by decide) rfl ⟨[_], _, rfl, rfl, ⟨[_], _, rfl, rfl, rfl⟩⟩) ?_
      obtain ⟨x10, hx10, H⟩ := bindE H
      refine RS.q (Qt.call ent22 rfl fun w s => throngref0_EqNumbers_walk x2.1 [0, 0] w ((Rd.ofRowN 1 rfl) w s) ((Rd.ofRowN 2 rfl) w s) hx10) rfl rfl ?_
      refine RS.p (Pu.pickT rfl rfl) rfl rfl ?_
      obtain rfl := Option.some.inj H
      exact hJ6 _ _ ⟨rfl, trivial⟩ (fun w s => s.pick [0, 1] (by decide) rfl)
    · have H := ifF hc5 H
      refine RS.no rfl rfl ?_
      refine RS.no rfl rfl ?_
      refine RS.no rfl rfl ?_
      refine RS.p (Pu.pickF rfl rfl) rfl rfl ?_
      obtain rfl := Option.some.inj H
      exact hJ6 _ _ ⟨rfl, trivial⟩ (fun w s => s)
theorem thronglaw10_heavy_walk (a0_p : Ask) (w : World) {v0 v1 v2 : Value} (h0 : R (hpOf w) a0_p.Free [v0]) (h1 : R (hpOf w) a0_p.Ts [v1]) (h2 : R (hpOf w) a0_p.Parts [v2]) {r : Bool} (H : thronglaw10_heavy a0_p = some r) : Calls Try.prog 23 #[.agg #[.int .i64 a0_p.W, .int .i64 a0_p.H, v0, v1, v2]] w fun e w' => e = .returned (.bool r) ∧ Ext w w' := by
  have hm0 := R_max h0
  obtain ⟨p0, c0, rfl⟩ := R_form h0
  have hm1 := R_max h1
  obtain ⟨p1, c1, rfl⟩ := R_form h1
  have hm2 := R_max h2
  obtain ⟨p2, c2, rfl⟩ := R_form h2
  unfold thronglaw10_heavy at H
  refine T.enter (args := [_]) (S := Sat w []) Try.func23 rfl rfl (Sat.start w) ?_
  refine T.seq fun K1 hK1 => ?_
  refine T.region ?_
  refine RS.solid (Sd.box (cs := [_, _, _, _, _]) rfl rfl) rfl rfl fun b1 => ?_
  refine RS.p (Pu.assign rfl) rfl rfl ?_
  refine RS.nil (hK1 _ _ ?_)
  refine T.seq fun K2 hK2 => ?_
  refine T.region ?_
  refine RS.p (Pu.fieldAddr fd41_2 rfl) rfl rfl ?_
  refine RS.q (Qt.ldB 0 ty39 rfl rfl rfl) rfl rfl ?_
  refine RS.p (Pu.lenSl sl39 rfl) rfl rfl ?_
  refine RS.p (Pu.bin rfl rfl rfl) rfl rfl ?_
  refine RS.p (Pu.move rfl) rfl rfl ?_
  refine RS.joinV 5 12 (.bool (decide ((900 < (a0_p.Free.length : Int)) ∨ (60 < (a0_p.Ts.length : Int))))) [(1, _), (2, _)] ⟨rfl, rfl, trivial⟩ ?_ ?_
  · refine RS.p (Pu.move rfl) rfl rfl ?_
    refine RS.joinV 5 18 (.bool (decide (((900 < (a0_p.Free.length : Int)) ∨ (60 < (a0_p.Ts.length : Int))) ∨ (2000 < (a0_p.Parts.length : Int))))) [(2, _)] ⟨rfl, trivial⟩ ?_ ?_
    · refine RS.p (Pu.assign rfl) rfl rfl ?_
      refine RS.nil (hK2 _ _ ?_)
      obtain rfl := Option.some.inj H
      refine T.retTo (by with_reducible ((repeat (first | apply RetTo.seq | apply RetTo.blk)); exact RetTo.refl _)) (Cont.ret1 rfl rfl fun w' s => ?_)
      exact ⟨rfl, s.ext⟩
    · intro hJ5
      refine RS.splitP 13 rfl (fun hc4 => ?_) (fun hc4 => ?_)
      · refine RS.no rfl rfl ?_
        refine RS.no rfl rfl ?_
        refine RS.no rfl rfl ?_
        refine RS.no rfl rfl ?_
        refine RS.p (Pu.pickT rfl rfl) rfl rfl ?_
        exact hJ5 _ _ ⟨dOrT hc4, rfl, trivial⟩ (fun w s => s)
      · refine RS.p (Pu.fieldAddr fd41_4 rfl) rfl rfl ?_
        refine RS.q (Qt.ldB 0 ty26 rfl rfl rfl) rfl rfl ?_
        refine RS.p (Pu.lenSl sl26 rfl) rfl rfl ?_
        refine RS.p (Pu.bin rfl rfl rfl) rfl rfl ?_
        refine RS.p (Pu.pickF rfl rfl) rfl rfl ?_
        exact hJ5 _ _ ⟨dOrF hc4, rfl, trivial⟩ (fun w s => s)
  · intro hJ3
    refine RS.splitP 7 rfl (fun hc2 => ?_) (fun hc2 => ?_)
    · refine RS.no rfl rfl ?_
      refine RS.no rfl rfl ?_
      refine RS.no rfl rfl ?_
      refine RS.no rfl rfl ?_
      refine RS.p (Pu.pickT rfl rfl) rfl rfl ?_
      exact hJ3 _ _ ⟨dOrT hc2, rfl, rfl, trivial⟩ (fun w s => s)
    · refine RS.p (Pu.fieldAddr fd41_3 rfl) rfl rfl ?_
      refine RS.q (Qt.ldB 0 ty26 rfl rfl rfl) rfl rfl ?_
      refine RS.p (Pu.lenSl sl26 rfl) rfl rfl ?_
      refine RS.p (Pu.bin rfl rfl rfl) rfl rfl ?_
      refine RS.p (Pu.pickF rfl rfl) rfl rfl ?_
      exact hJ3 _ _ ⟨dOrF hc2, rfl, rfl, trivial⟩ (fun w s => s)
theorem thronglaw10_form_walk (a0_p : Ask) (w : World) {v0 v1 v2 : Value} (h0 : R (hpOf w) a0_p.Free [v0]) (h1 : R (hpOf w) a0_p.Ts [v1]) (h2 : R (hpOf w) a0_p.Parts [v2]) {r : Int} (H : thronglaw10_form a0_p = some r) : Calls Try.prog 24 #[.agg #[.int .i64 a0_p.W, .int .i64 a0_p.H, v0, v1, v2]] w fun e w' => e = .returned (.int .i64 r) ∧ Ext w w' := by
  have hm0 := R_max h0
  obtain ⟨p0, c0, rfl⟩ := R_form h0
  have hm1 := R_max h1
  obtain ⟨p1, c1, rfl⟩ := R_form h1
  have hm2 := R_max h2
  obtain ⟨p2, c2, rfl⟩ := R_form h2
  unfold thronglaw10_form at H
  refine T.enter (args := [_]) (S := Sat w []) Try.func24 rfl rfl (Sat.start w) ?_
  refine T.seq fun K1 hK1 => ?_
  refine T.region ?_
  refine RS.solid (Sd.box (cs := [_, _, _, _, _]) rfl rfl) rfl rfl fun b1 => ?_
  refine RS.p (Pu.assign rfl) rfl rfl ?_
  refine RS.nil (hK1 _ _ ?_)
  refine T.seq fun K2 hK2 => ?_
  refine T.seq fun K3 hK3 => ?_
  refine T.region ?_
  refine RS.p (Pu.fieldAddr fd41_0 rfl) rfl rfl ?_
  refine RS.q (Qt.ldB 0 ty3 rfl rfl rfl) rfl rfl ?_
  refine RS.p (Pu.fieldAddr fd41_1 rfl) rfl rfl ?_
  refine RS.q (Qt.ldB 0 ty3 rfl rfl rfl) rfl rfl ?_
  refine RS.p (Pu.fieldAddr fd41_2 rfl) rfl rfl ?_
  refine RS.q (Qt.ldB 0 ty39 rfl rfl rfl) rfl rfl ?_
  obtain ⟨x2, hx2, H⟩ := bindE H
  refine RS.q (Qt.call ent56 rfl fun w s => throngref10_May_walk a0_p.W a0_p.H a0_p.Free w ((Rd.base h0) w s) hx2) rfl rfl ?_
  refine RS.nil (hK3 _ _ ?_)
  refine T.cond rfl (fun hc3 => ?_) (fun hc3 => ?_)
  · have H := ifT hc3 H
    refine T.conseq (fr' := []) ?_ trivial (fun _ s => s)
    refine T.seq fun K4 hK4 => ?_
    refine T.region ?_
    refine RS.p (Pu.assign rfl) rfl rfl ?_
    refine RS.nil (hK4 _ _ ?_)
    obtain rfl := Option.some.inj H
    refine T.retTo (by with_reducible ((repeat (first | apply RetTo.seq | apply RetTo.blk)); exact RetTo.refl _)) (Cont.ret1 rfl rfl fun w' s => ?_)
    exact ⟨rfl, s.ext⟩
  · have H := ifB hc3 H
    refine T.skip (hK2 _ _ (T.conseq (fr' := []) ?_ trivial (fun _ s => s)))
    refine T.seq fun K5 hK5 => ?_
    refine T.region ?_
    refine RS.p (Pu.assign rfl) rfl rfl ?_
    refine RS.nil (hK5 _ _ ?_)
    obtain rfl := Option.some.inj H
    refine T.retTo (by with_reducible ((repeat (first | apply RetTo.seq | apply RetTo.blk)); exact RetTo.refl _)) (Cont.ret1 rfl rfl fun w' s => ?_)
    exact ⟨rfl, s.ext⟩
theorem thronglaw10_same_walk (a0_p : Ask) (a1_t : Int) (a2_s : Int) (w : World) {v0 v1 v2 : Value} (h0 : R (hpOf w) a0_p.Free [v0]) (h1 : R (hpOf w) a0_p.Ts [v1]) (h2 : R (hpOf w) a0_p.Parts [v2]) {r : Bool} (H : thronglaw10_same a0_p a1_t a2_s = some r) : Calls Try.prog 39 #[.agg #[.int .i64 a0_p.W, .int .i64 a0_p.H, v0, v1, v2], .int .i64 a1_t, .int .i64 a2_s] w fun e w' => e = .returned (.bool r) ∧ Ext w w' := by
  have hm0 := R_max h0
  obtain ⟨p0, c0, rfl⟩ := R_form h0
  have hm1 := R_max h1
  obtain ⟨p1, c1, rfl⟩ := R_form h1
  have hm2 := R_max h2
  obtain ⟨p2, c2, rfl⟩ := R_form h2
  unfold thronglaw10_same at H
  refine T.enter (args := [_, _, _]) (S := Sat w []) Try.func39 rfl rfl (Sat.start w) ?_
  refine T.seq fun K1 hK1 => ?_
  refine T.region ?_
  refine RS.solid (Sd.box (cs := [_, _, _, _, _]) rfl rfl) rfl rfl fun b1 => ?_
  refine RS.p (Pu.assign rfl) rfl rfl ?_
  refine RS.nil (hK1 _ _ ?_)
  refine T.seq fun K2 hK2 => ?_
  refine T.region ?_
  refine RS.p (Pu.fieldAddr fd41_0 rfl) rfl rfl ?_
  refine RS.q (Qt.ldB 0 ty3 rfl rfl rfl) rfl rfl ?_
  refine RS.p (Pu.fieldAddr fd41_1 rfl) rfl rfl ?_
  refine RS.q (Qt.ldB 0 ty3 rfl rfl rfl) rfl rfl ?_
  refine RS.p (Pu.move rfl) rfl rfl ?_
  obtain ⟨x2, hx2, H⟩ := bindE H
  refine RS.q (Qt.call ent35 rfl fun w s => sector_Of_walk a0_p.W a0_p.H a1_t w  hx2) rfl rfl ?_
  refine RS.p (Pu.move rfl) rfl rfl ?_
  refine RS.p (Pu.extract rfl rfl) rfl rfl ?_
  refine RS.p (Pu.extract rfl rfl) rfl rfl ?_
  refine RS.p (Pu.assign rfl) rfl rfl ?_
  refine RS.p (Pu.assign rfl) rfl rfl ?_
  refine RS.nil (hK2 _ _ (T.conseq (fr' := [(2, _), (7, _), (8, _)]) ?_ ⟨rfl, rfl, rfl, trivial⟩ (fun _ s => s)))
  refine T.seq fun K3 hK3 => ?_
  refine T.region ?_
  refine RS.p (Pu.move rfl) rfl rfl ?_
  obtain ⟨x3, hx3, H⟩ := bindE H
  refine RS.q (Qt.call ent28 rfl fun w s => thronglaw10_num_walk x2.2 w  hx3) rfl rfl ?_
  refine RS.p (Pu.bin rfl rfl rfl) rfl rfl ?_
  refine RS.p (Pu.move rfl) rfl rfl ?_
  refine RS.joinV 4 25 (.bool (decide ((x3 = 0) ∧ (x2.1 = a2_s)))) [] trivial ?_ ?_
  · refine RS.p (Pu.assign rfl) rfl rfl ?_
    refine RS.nil (hK3 _ _ ?_)
    obtain rfl := Option.some.inj H
    refine T.retTo (by with_reducible ((repeat (first | apply RetTo.seq | apply RetTo.blk)); exact RetTo.refl _)) (Cont.ret1 rfl rfl fun w' s => ?_)
    exact ⟨rfl, s.ext⟩
  · intro hJ5
    refine RS.splitP 21 rfl (fun hc4 => ?_) (fun hc4 => ?_)
    · refine RS.p (Pu.move rfl) rfl rfl ?_
      refine RS.p (Pu.move rfl) rfl rfl ?_
      refine RS.p (Pu.bin rfl rfl rfl) rfl rfl ?_
      refine RS.p (Pu.pickT rfl rfl) rfl rfl ?_
      exact hJ5 _ _ ⟨dAndT hc4, trivial⟩ (fun w s => s)
    · refine RS.no rfl rfl ?_
      refine RS.no rfl rfl ?_
      refine RS.no rfl rfl ?_
      refine RS.p (Pu.pickF rfl rfl) rfl rfl ?_
      exact hJ5 _ _ ⟨dAndF hc4, trivial⟩ (fun w s => s)
end Go.Proofs.Ytacpdjccbadomaa
