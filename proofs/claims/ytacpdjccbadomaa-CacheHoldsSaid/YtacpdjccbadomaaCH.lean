/-
  Walks of what the statements of the cache call.
-/
import Derived.Test.YtacpdjccbadomaaRows
import Derived.Test.YtacpdjccbadomaaCG
import Derived.Test.YtacpdjccbadomaaVQ
set_option linter.unusedVariables false
set_option linter.unusedSimpArgs false
set_option maxRecDepth 20000
set_option maxHeartbeats 1000000
namespace Go.Proofs.Ytacpdjccbadomaa
open Go.Vg
open Enc (R)
theorem ent37 : Ent Try.prog 37 := ⟨_, _, Try.func37, by kernel_rfl, rfl⟩
theorem ent40 : Ent Try.prog 40 := ⟨_, _, Try.func40, by kernel_rfl, rfl⟩
theorem ent41 : Ent Try.prog 41 := ⟨_, _, Try.func41, by kernel_rfl, rfl⟩
theorem ent42 : Ent Try.prog 42 := ⟨_, _, Try.func42, by kernel_rfl, rfl⟩
theorem ent43 : Ent Try.prog 43 := ⟨_, _, Try.func43, by kernel_rfl, rfl⟩
theorem ent45 : Ent Try.prog 45 := ⟨_, _, Try.func45, by kernel_rfl, rfl⟩
theorem ent50 : Ent Try.prog 50 := ⟨_, _, Try.func50, by kernel_rfl, rfl⟩
theorem ent52 : Ent Try.prog 52 := ⟨_, _, Try.func52, by kernel_rfl, rfl⟩
theorem ent53 : Ent Try.prog 53 := ⟨_, _, Try.func53, by kernel_rfl, rfl⟩
theorem ent54 : Ent Try.prog 54 := ⟨_, _, Try.func54, by kernel_rfl, rfl⟩
theorem ent63 : Ent Try.prog 63 := ⟨_, _, Try.func63, by kernel_rfl, rfl⟩
theorem ent64 : Ent Try.prog 64 := ⟨_, _, Try.func64, by kernel_rfl, rfl⟩
theorem ent65 : Ent Try.prog 65 := ⟨_, _, Try.func65, by kernel_rfl, rfl⟩
theorem ent66 : Ent Try.prog 66 := ⟨_, _, Try.func66, by kernel_rfl, rfl⟩
theorem ent67 : Ent Try.prog 67 := ⟨_, _, Try.func67, by kernel_rfl, rfl⟩
theorem ent68 : Ent Try.prog 68 := ⟨_, _, Try.func68, by kernel_rfl, rfl⟩
theorem ent73 : Ent Try.prog 73 := ⟨_, _, Try.func73, by kernel_rfl, rfl⟩
theorem ent75 : Ent Try.prog 75 := ⟨_, _, Try.func75, by kernel_rfl, rfl⟩
theorem ent76 : Ent Try.prog 76 := ⟨_, _, Try.func76, by kernel_rfl, rfl⟩
theorem fd75_0 : fdOff Try.prog 75 0 = some 0 := by kernel_rfl
theorem fd75_1 : fdOff Try.prog 75 1 = some 1 := by kernel_rfl
theorem fd75_2 : fdOff Try.prog 75 2 = some 2 := by kernel_rfl
theorem fd75_3 : fdOff Try.prog 75 3 = some 3 := by kernel_rfl
theorem fd75_4 : fdOff Try.prog 75 4 = some 4 := by kernel_rfl
theorem fd95_0 : fdOff Try.prog 95 0 = some 0 := by kernel_rfl
theorem fd95_1 : fdOff Try.prog 95 1 = some 1 := by kernel_rfl
theorem fd95_2 : fdOff Try.prog 95 2 = some 2 := by kernel_rfl
theorem fd95_3 : fdOff Try.prog 95 3 = some 3 := by kernel_rfl
theorem fd95_4 : fdOff Try.prog 95 4 = some 4 := by kernel_rfl
theorem mp88 : mpTy Try.prog 88 = true := by kernel_rfl
theorem st95 : stTy Try.prog 95 = some ([.int .i64 0, .map none, .slice none 0 0, .int .i64 0, .int .i64 0], [(0, 1), (1, 1), (2, 1), (3, 1), (4, 1)]) := by kernel_rfl
theorem ty26 : tySz Try.prog 26 = some (1, false) := by kernel_rfl
theorem ty3 : tySz Try.prog 3 = some (1, false) := by kernel_rfl
theorem ty88 : tySz Try.prog 88 = some (1, false) := by kernel_rfl
theorem ul63 : Try.prog.underlying 63 = some (.pointer 95) := by kernel_rfl
theorem throngref0_EqNumbers_walk (a0_a : List Int) (a1_b : List Int) (w : World) {v0 v1 : Value} (h0 : R (hpOf w) a0_a [v0]) (h1 : R (hpOf w) a1_b [v1]) {r : Bool} (H : throngref0_EqNumbers a0_a a1_b = some r) : Calls Try.prog 22 #[v0, v1] w fun e w' => e = .returned (.bool r) ∧ Ext w w' := by
  have hm0 := R_max h0
  obtain ⟨p0, c0, rfl⟩ := R_form h0
  have hm1 := R_max h1
  obtain ⟨p1, c1, rfl⟩ := R_form h1
  unfold throngref0_EqNumbers at H
  refine T.enter (args := [_, _]) (S := Sat w []) Try.func22 rfl rfl (Sat.start w) ?_
  refine T.seq fun K1 hK1 => ?_
  refine T.region ?_
  refine RS.p (Pu.assign rfl) rfl rfl ?_
  refine RS.nil (hK1 _ _ ?_)
  refine T.seq fun K2 hK2 => ?_
  refine T.seq fun K3 hK3 => ?_
  refine T.region ?_
  refine RS.p (Pu.move rfl) rfl rfl ?_
  refine RS.p (Pu.lenSl sl26 rfl) rfl rfl ?_
  refine RS.p (Pu.move rfl) rfl rfl ?_
  refine RS.p (Pu.lenSl sl26 rfl) rfl rfl ?_
  refine RS.p (Pu.bin rfl rfl rfl) rfl rfl ?_
  refine RS.nil (hK3 _ _ ?_)
  refine T.condP rfl (fun hc1 => ?_) (fun hc1 => ?_)
  · have H := ifT hc1 H
    refine T.conseq (fr' := []) ?_ trivial (fun _ s => s)
    refine T.seq fun K4 hK4 => ?_
    refine T.region ?_
    refine RS.p (Pu.assign rfl) rfl rfl ?_
    refine RS.nil (hK4 _ _ ?_)
    obtain rfl := Option.some.inj H
    refine T.retTo (by with_reducible ((repeat (first | apply RetTo.seq | apply RetTo.blk)); exact RetTo.refl _)) (Cont.ret1 rfl rfl fun w' s => ?_)
    exact ⟨rfl, s.ext⟩
  · have H := ifF hc1 H
    refine T.skip (hK2 _ _ (T.conseq (fr' := [(0, _), (1, _)]) ?_ ⟨rfl, rfl, trivial⟩ (fun _ s => s)))
    refine T.seq fun K5 hK5 => ?_
    refine T.seq fun K6 hK6 => ?_
    refine T.region ?_
    refine RS.p (Pu.assign rfl) rfl rfl ?_
    refine RS.nil (hK6 _ _ ?_)
    refine T.joinE (σ := Unit) (γ := Unit) H Ex.go [] trivial (fun _ _ => []) (fun _ _ => Sat w []) ?_ ?_
    · rintro ⟨⟩ ⟨⟩ H
      try dsimp only [Ex.then] at H
      refine Cont.conseq (fr' := []) ?_ trivial (fun _ s => s)
      refine id (hK5 _ _ ?_)
      refine T.seq fun K7 hK7 => ?_
      refine T.region ?_
      refine RS.p (Pu.assign rfl) rfl rfl ?_
      refine RS.nil (hK7 _ _ ?_)
      obtain rfl := Option.some.inj H
      refine T.retTo (by with_reducible ((repeat (first | apply RetTo.seq | apply RetTo.blk)); exact RetTo.refl _)) (Cont.ret1 rfl rfl fun w' s => ?_)
      exact ⟨rfl, s.ext⟩
    · intro z2 hz2 HX2 hJ2
      refine T.block ?_
      refine T.loopA (γ := Unit) hz2 [(0, _), (1, _)] (fun v3 _ => [(5, .int .i64 v3)]) (fun v3 _ => Sat w []) () ⟨rfl, rfl, trivial⟩ ⟨rfl, trivial⟩ (fun w s => s) ?_
      rintro v3 ⟨⟩ y4 H hd2 KL2 hL2
      try dsimp only [Ex.then] at H
      refine T.conseq (fr' := [(5, _), (0, _), (1, _)]) ?_ ⟨rfl, rfl, rfl, trivial⟩ (fun _ s => s)
      refine T.seq fun K8 hK8 => ?_
      refine T.seq fun K9 hK9 => ?_
      refine T.region ?_
      refine RS.p (Pu.move rfl) rfl rfl ?_
      refine RS.p (Pu.move rfl) rfl rfl ?_
      refine RS.p (Pu.lenSl sl26 rfl) rfl rfl ?_
      refine RS.p (Pu.bin rfl rfl rfl) rfl rfl ?_
      refine RS.nil (hK9 _ _ ?_)
      refine T.condP rfl (fun hc5 => ?_) (fun hc5 => ?_)
      · have H := ifT hc5 H
        refine T.skip (hK8 _ _ (T.conseq (fr' := [(0, _), (1, _), (5, _)]) ?_ ⟨rfl, rfl, rfl, trivial⟩ (fun _ s => s)))
        refine T.seq fun K10 hK10 => ?_
        refine T.block ?_
        refine T.seq fun K11 hK11 => ?_
        refine T.drawn (fun _ => True) [(0, .pu), (1, .pu), (2, .pu), (3, .rd), (4, .pu), (5, .pu), (6, .pu), (7, .rd), (8, .pu)] mixed (ClE.sat _ _) (by kernel_rfl) ?_
        refine RD.p (fun _ _ => trivial) rfl (Pu.move rfl) rfl rfl ?_
        refine RD.p (fun _ _ => trivial) rfl (Pu.move rfl) rfl rfl ?_
        obtain ⟨g6, H⟩ := gdE H
        obtain ⟨bl7, ol8, rfl⟩ := R_ptr h0 (ne_of_pos (pos_of g6))
        refine RD.p (fun _ _ => trivial) rfl (Pu.indexSl sl26 rfl rfl g6) rfl rfl ?_
        refine RD.q (fun _ _ => trivial) rfl (Qt.ld0 (α := Int) (Rd.base h0) ty3 rfl rfl g6 (by rintro _ _ rfl; rfl)) rfl rfl ?_
        refine RD.p (fun _ _ => trivial) rfl (Pu.move rfl) rfl rfl ?_
        refine RD.p (fun _ _ => trivial) rfl (Pu.move rfl) rfl rfl ?_
        obtain ⟨g9, H⟩ := gdE H
        obtain ⟨bl10, ol11, rfl⟩ := R_ptr h1 (ne_of_pos (pos_of g9))
        refine RD.p (fun _ _ => trivial) rfl (Pu.indexSl sl26 rfl rfl g9) rfl rfl ?_
        refine RD.q (fun _ _ => trivial) rfl (Qt.ld0 (α := Int) (Rd.base h1) ty3 rfl rfl g9 (by rintro _ _ rfl; rfl)) rfl rfl ?_
        refine RD.p (fun _ _ => trivial) rfl (Pu.bin rfl rfl rfl) rfl rfl ?_
        refine RD.nil (hK11 _ _ ?_)
        refine T.condP rfl (fun hc12 => ?_) (fun hc12 => ?_)
        · have H := ifT hc12 H
          refine T.conseq (fr' := []) ?_ trivial (fun _ s => s)
          refine T.seq fun K12 hK12 => ?_
          refine T.region ?_
          refine RS.p (Pu.assign rfl) rfl rfl ?_
          refine RS.nil (hK12 _ _ ?_)
          obtain rfl := hd2 _ H
          have H := HX2
          obtain rfl := Option.some.inj H
          refine T.retTo (by with_reducible ((repeat (first | apply RetTo.seq | apply RetTo.blk)); exact RetTo.refl _)) (Cont.ret1 rfl rfl fun w' s => ?_)
          exact ⟨rfl, s.ext⟩
        · have H := ifF hc12 H
          refine T.skip (hK10 _ _ (T.conseq (fr' := [(0, _), (1, _), (5, _)]) ?_ ⟨rfl, rfl, rfl, trivial⟩ (fun _ s => s)))
          refine T.region ?_
          refine RS.p (Pu.move rfl) rfl rfl ?_
          obtain ⟨g13, H⟩ := gdE H
          refine RS.p (Pu.addS rfl rfl g13) rfl rfl ?_
          refine RS.p (Pu.assign rfl) rfl rfl ?_
          refine RS.nil (hL2 _ _ (v3 + 1) () H ⟨rfl, rfl, trivial⟩ ⟨rfl, trivial⟩ (fun w s => s))
      · have H := ifF hc5 H
        obtain rfl := hd2 _ H
        refine T.exitTo (by with_reducible (repeat (first | exact ExTo.here | exact ExTo.hereN | exact ExTo.deep (by repeat (first | exact NmTo.seq | apply NmTo.blk)) | apply ExTo.seq | refine ExTo.past (by decide) ?_))) (hJ2 _ _ () () HX2 trivial trivial (fun w s => s))
theorem throngref0_CopyNumbers_walk (a0_l : List Int) (w : World) {v0 : Value} (h0 : R (hpOf w) a0_l [v0]) {r : List Int} (H : throngref0_CopyNumbers a0_l = some r) : Calls Try.prog 37 #[v0] w fun e w' => ∃ q1 : (Option Nat × Nat), e = .returned (rowV q1 r.length) ∧ Sat w [row nilH 3 (rowV q1 r.length) r] w' := by
  have hm0 := R_max h0
  obtain ⟨p0, c0, rfl⟩ := R_form h0
  unfold throngref0_CopyNumbers at H
  refine T.enter (args := [_]) (S := Sat w []) Try.func37 rfl rfl (Sat.start w) ?_
  refine T.seq fun K1 hK1 => ?_
  refine T.region ?_
  refine RS.p (Pu.assign rfl) rfl rfl ?_
  refine RS.nil (hK1 _ _ ?_)
  refine T.seq fun K2 hK2 => ?_
  refine T.region ?_
  refine RS.p (Pu.assign rfl) rfl rfl ?_
  refine RS.nil (hK2 _ _ ?_)
  refine T.seq fun K3 hK3 => ?_
  refine T.seq fun K4 hK4 => ?_
  refine T.region ?_
  refine RS.p (Pu.assign rfl) rfl rfl ?_
  refine RS.nil (hK4 _ _ ?_)
  refine T.joinE (σ := List Int) (γ := (Option Nat × Nat)) H (fun s => s) [] trivial (fun v2 q3 => [(3, rowV q3 v2.length)]) (fun v2 q3 => Sat w [row nilH 3 (rowV q3 v2.length) v2]) ?_ ?_
  · rintro v2 q3 H
    try dsimp only [Ex.then] at H
    refine Cont.conseq (fr' := [(3, _)]) ?_ ⟨rfl, trivial⟩ (fun _ s => s)
    refine id (hK3 _ _ ?_)
    refine T.seq fun K5 hK5 => ?_
    refine T.region ?_
    refine RS.p (Pu.move rfl) rfl rfl ?_
    refine RS.p (Pu.assign rfl) rfl rfl ?_
    refine RS.nil (hK5 _ _ ?_)
    obtain rfl := Option.some.inj H
    refine T.retTo (by with_reducible ((repeat (first | apply RetTo.seq | apply RetTo.blk)); exact RetTo.refl _)) (Cont.ret1 rfl rfl fun w' s => ?_)
    exact ⟨q3, rfl, s.pick [0] (by decide) rfl⟩
  · intro z1 hz1 HX1 hJ1
    refine T.block ?_
    refine T.loopA (γ := (Option Nat × Nat)) hz1 [(0, _)] (fun (l4, v6) q5 => [(3, rowV q5 l4.length), (4, .int .i64 v6)]) (fun (l4, v6) q5 => Sat w [row nilH 3 (rowV q5 l4.length) l4]) (none, 0) ⟨rfl, trivial⟩ ⟨rfl, rfl, trivial⟩ (fun w s => (s.nilRow (α := Int) 3).pick [0] (by decide) rfl) ?_
    rintro ⟨l4, v6⟩ q5 y7 H hd1 KL1 hL1
    try dsimp only [Ex.then] at H
    refine T.conseq (fr' := [(3, _), (4, _), (0, _)]) ?_ ⟨rfl, rfl, rfl, trivial⟩ (fun _ s => s)
    refine T.seq fun K6 hK6 => ?_
    refine T.seq fun K7 hK7 => ?_
    refine T.region ?_
    refine RS.p (Pu.move rfl) rfl rfl ?_
    refine RS.p (Pu.move rfl) rfl rfl ?_
    refine RS.p (Pu.lenSl sl26 rfl) rfl rfl ?_
    refine RS.p (Pu.bin rfl rfl rfl) rfl rfl ?_
    refine RS.nil (hK7 _ _ ?_)
    refine T.condP rfl (fun hc8 => ?_) (fun hc8 => ?_)
    · have H := ifT hc8 H
      refine T.skip (hK6 _ _ (T.conseq (fr' := [(0, _), (3, _), (4, _)]) ?_ ⟨rfl, rfl, rfl, trivial⟩ (fun _ s => s)))
      refine T.seq fun K8 hK8 => ?_
      refine T.block ?_
      refine T.region ?_
      refine RS.p (Pu.move rfl) rfl rfl ?_
      refine RS.p (Pu.move rfl) rfl rfl ?_
      refine RS.p (Pu.move rfl) rfl rfl ?_
      obtain ⟨g9, H⟩ := gdE H
      obtain ⟨bl10, ol11, rfl⟩ := R_ptr h0 (ne_of_pos (pos_of g9))
      refine RS.p (Pu.indexSl sl26 rfl rfl g9) rfl rfl ?_
      refine RS.q (Qt.ld0 (α := Int) (Rd.base h0) ty3 rfl rfl g9 (by rintro _ _ rfl; rfl)) rfl rfl ?_
      refine RS.solid (Sd.litS (cs := [_]) sl26 zr3 rfl rfl rfl rfl rfl) rfl rfl fun b12 => ?_
      obtain ⟨g14, H⟩ := gdE H
      refine RS.solid (Sd.app1c (α := Int) 0 1 (gi a0_l v6) rfl rfl (nilH_lt _) sl26 zr3 rfl rfl rfl rfl g14 (by decide)) rfl rfl fun q13 => ?_
      refine RS.p (Pu.assign rfl) rfl rfl ?_
      refine RS.nil (hK8 _ _ (T.conseq (fr' := [(0, _), (3, _), (4, _)]) ?_ ⟨rfl, rfl, rfl, trivial⟩ (fun _ s => s)))
      refine T.region ?_
      refine RS.p (Pu.move rfl) rfl rfl ?_
      obtain ⟨g15, H⟩ := gdE H
      refine RS.p (Pu.addS rfl rfl g15) rfl rfl ?_
      refine RS.p (Pu.assign rfl) rfl rfl ?_
      refine RS.nil (hL1 _ _ ((l4 ++ [(gi a0_l v6)]), (v6 + 1)) q13 H ⟨rfl, trivial⟩ ⟨rfl, rfl, trivial⟩ (fun w s => s.pick [0] (by decide) rfl))
    · have H := ifF hc8 H
      obtain rfl := hd1 _ H
      refine T.exitTo (by with_reducible (repeat (first | exact ExTo.here | exact ExTo.hereN | exact ExTo.deep (by repeat (first | exact NmTo.seq | apply NmTo.blk)) | apply ExTo.seq | refine ExTo.past (by decide) ?_))) (hJ1 _ _ l4 q5 HX1 trivial ⟨rfl, trivial⟩ (fun w s => s))
theorem throngref0_In_walk (a0_l : List Int) (a1_n : Int) (w : World) {v0 : Value} (h0 : R (hpOf w) a0_l [v0]) {r : Int} (H : throngref0_In a0_l a1_n = some r) : Calls Try.prog 42 #[v0, .int .i64 a1_n] w fun e w' => e = .returned (.int .i64 r) ∧ Ext w w' := by
  have hm0 := R_max h0
  obtain ⟨p0, c0, rfl⟩ := R_form h0
  unfold throngref0_In at H
  refine T.enter (args := [_, _]) (S := Sat w []) Try.func42 rfl rfl (Sat.start w) ?_
  refine T.seq fun K1 hK1 => ?_
  refine T.region ?_
  refine RS.p (Pu.assign rfl) rfl rfl ?_
  refine RS.nil (hK1 _ _ ?_)
  refine T.seq fun K2 hK2 => ?_
  refine T.seq fun K3 hK3 => ?_
  refine T.region ?_
  refine RS.p (Pu.assign rfl) rfl rfl ?_
  refine RS.nil (hK3 _ _ ?_)
  refine T.joinE (σ := Unit) (γ := Unit) H Ex.go [] trivial (fun _ _ => []) (fun _ _ => Sat w []) ?_ ?_
  · rintro ⟨⟩ ⟨⟩ H
    try dsimp only [Ex.then] at H
    refine Cont.conseq (fr' := []) ?_ trivial (fun _ s => s)
    refine id (hK2 _ _ ?_)
    refine T.seq fun K4 hK4 => ?_
    refine T.region ?_
    refine RS.p (Pu.assign rfl) rfl rfl ?_
    refine RS.nil (hK4 _ _ ?_)
    obtain rfl := Option.some.inj H
    refine T.retTo (by with_reducible ((repeat (first | apply RetTo.seq | apply RetTo.blk)); exact RetTo.refl _)) (Cont.ret1 rfl rfl fun w' s => ?_)
    exact ⟨rfl, s.ext⟩
  · intro z1 hz1 HX1 hJ1
    refine T.block ?_
    refine T.loopA (γ := Unit) hz1 [(0, _), (1, _)] (fun v2 _ => [(5, .int .i64 v2)]) (fun v2 _ => Sat w []) () ⟨rfl, rfl, trivial⟩ ⟨rfl, trivial⟩ (fun w s => s) ?_
    rintro v2 ⟨⟩ y3 H hd1 KL1 hL1
    try dsimp only [Ex.then] at H
    refine T.conseq (fr' := [(5, _), (0, _), (1, _)]) ?_ ⟨rfl, rfl, rfl, trivial⟩ (fun _ s => s)
    refine T.seq fun K5 hK5 => ?_
    refine T.seq fun K6 hK6 => ?_
    refine T.region ?_
    refine RS.p (Pu.move rfl) rfl rfl ?_
    refine RS.p (Pu.move rfl) rfl rfl ?_
    refine RS.p (Pu.lenSl sl26 rfl) rfl rfl ?_
    refine RS.p (Pu.bin rfl rfl rfl) rfl rfl ?_
    refine RS.nil (hK6 _ _ ?_)
    refine T.condP rfl (fun hc4 => ?_) (fun hc4 => ?_)
    · have H := ifT hc4 H
      refine T.skip (hK5 _ _ (T.conseq (fr' := [(0, _), (1, _), (5, _)]) ?_ ⟨rfl, rfl, rfl, trivial⟩ (fun _ s => s)))
      refine T.seq fun K7 hK7 => ?_
      refine T.block ?_
      refine T.seq fun K8 hK8 => ?_
      refine T.region ?_
      refine RS.p (Pu.move rfl) rfl rfl ?_
      refine RS.p (Pu.move rfl) rfl rfl ?_
      obtain ⟨g5, H⟩ := gdE H
      obtain ⟨bl6, ol7, rfl⟩ := R_ptr h0 (ne_of_pos (pos_of g5))
      refine RS.p (Pu.indexSl sl26 rfl rfl g5) rfl rfl ?_
      refine RS.q (Qt.ld0 (α := Int) (Rd.base h0) ty3 rfl rfl g5 (by rintro _ _ rfl; rfl)) rfl rfl ?_
      refine RS.p (Pu.move rfl) rfl rfl ?_
      refine RS.p (Pu.bin rfl rfl rfl) rfl rfl ?_
      refine RS.nil (hK8 _ _ ?_)
      refine T.condP rfl (fun hc8 => ?_) (fun hc8 => ?_)
      · have H := ifT hc8 H
        refine T.conseq (fr' := [(5, _)]) ?_ ⟨rfl, trivial⟩ (fun _ s => s)
        refine T.seq fun K9 hK9 => ?_
        refine T.region ?_
        refine RS.p (Pu.move rfl) rfl rfl ?_
        refine RS.p (Pu.assign rfl) rfl rfl ?_
        refine RS.nil (hK9 _ _ ?_)
        obtain rfl := hd1 _ H
        have H := HX1
        obtain rfl := Option.some.inj H
        refine T.retTo (by with_reducible ((repeat (first | apply RetTo.seq | apply RetTo.blk)); exact RetTo.refl _)) (Cont.ret1 rfl rfl fun w' s => ?_)
        exact ⟨rfl, s.ext⟩
      · have H := ifF hc8 H
        refine T.skip (hK7 _ _ (T.conseq (fr' := [(0, _), (1, _), (5, _)]) ?_ ⟨rfl, rfl, rfl, trivial⟩ (fun _ s => s)))
        refine T.region ?_
        refine RS.p (Pu.move rfl) rfl rfl ?_
        obtain ⟨g9, H⟩ := gdE H
        refine RS.p (Pu.addS rfl rfl g9) rfl rfl ?_
        refine RS.p (Pu.assign rfl) rfl rfl ?_
        refine RS.nil (hL1 _ _ (v2 + 1) () H ⟨rfl, rfl, trivial⟩ ⟨rfl, trivial⟩ (fun w s => s))
    · have H := ifF hc4 H
      obtain rfl := hd1 _ H
      refine T.exitTo (by with_reducible (repeat (first | exact ExTo.here | exact ExTo.hereN | exact ExTo.deep (by repeat (first | exact NmTo.seq | apply NmTo.blk)) | apply ExTo.seq | refine ExTo.past (by decide) ?_))) (hJ1 _ _ () () HX1 trivial trivial (fun w s => s))
theorem thronglaw0_Numbers_walk {w0 : World} {F : Ch} (a0_l : List Int) {q0 : Option Nat × Nat} {m0 : Nat} (hm : m0 = a0_l.length) {r : Unit} (H : thronglaw0_Numbers a0_l = some r) (w : World) (s : Sat w0 [row nilH 3 (rowV q0 m0) a0_l, F] w) : Calls Try.prog 30 #[rowV q0 m0] w fun e w' => e = .returned (.tuple #[]) ∧ Sat w0 [dead, F] w' := by
  subst hm
  unfold thronglaw0_Numbers at H
  refine T.enter (args := [_]) (S := Sat w0 [row nilH 3 (rowV q0 a0_l.length) a0_l, F]) Try.func30 rfl rfl (s) ?_
  refine T.seq fun K1 hK1 => ?_
  refine T.seq fun K2 hK2 => ?_
  refine T.region ?_
  refine RS.p (Pu.assign rfl) rfl rfl ?_
  refine RS.nil (hK2 _ _ ?_)
  refine T.joinE (σ := List Int) (γ := Unit) H (fun s => s) [(0, _)] ⟨rfl, trivial⟩ (fun v2 _ => []) (fun v2 _ => Sat w0 [row nilH 3 (rowV q0 a0_l.length) v2, F]) ?_ ?_
  · rintro v2 ⟨⟩ H
    try dsimp only [Ex.then] at H
    refine Cont.conseq (fr' := [(0, _)]) ?_ ⟨rfl, trivial⟩ (fun _ s => s)
    refine id (hK1 _ _ ?_)
    refine T.region ?_
    refine RS.p (Pu.move rfl) rfl rfl ?_
    refine RS.solid (Sd.litS (cs := [_]) sl26 zr3 rfl rfl rfl rfl rfl) rfl rfl fun b3 => ?_
    obtain ⟨g5, H⟩ := gdE H
    refine RS.solid (Sd.app1c (α := Int) 0 2 5 rfl rfl (nilH_lt _) sl26 zr3 rfl rfl rfl rfl g5 (by decide)) rfl rfl fun q4 => ?_
    refine RS.p (Pu.assign rfl) rfl rfl ?_
    obtain rfl := Option.some.inj H
    refine RS.nil (Cont.end0 rfl fun w' s => ?_)
    exact ⟨rfl, (s.deadRow).pick [3, 1] (by decide) rfl⟩
  · intro z1 hz1 HX1 hJ1
    refine T.block ?_
    refine T.loopA (γ := Unit) hz1 [(0, _)] (fun (v6, l7) _ => [(2, .int .i64 v6)]) (fun (v6, l7) _ => Sat w0 [row nilH 3 (rowV q0 a0_l.length) l7, F]) () ⟨rfl, trivial⟩ ⟨rfl, trivial⟩ (fun w s => s) ?_
    rintro ⟨v6, l7⟩ ⟨⟩ y8 H hd1 KL1 hL1
    try dsimp only [Ex.then] at H
    refine T.conseq (fr' := [(2, _), (0, _)]) ?_ ⟨rfl, rfl, trivial⟩ (fun _ s => s)
    refine T.seq fun K3 hK3 => ?_
    refine T.seq fun K4 hK4 => ?_
    refine T.region ?_
    refine RS.p (Pu.move rfl) rfl rfl ?_
    refine RS.p (Pu.move rfl) rfl rfl ?_
    refine RS.p (Pu.lenSl sl26 rfl) rfl rfl ?_
    refine RS.p (Pu.bin rfl rfl rfl) rfl rfl ?_
    refine RS.nil (hK4 _ _ ?_)
    refine T.condP rfl (fun hc9 => ?_) (fun hc9 => ?_)
    · have H := ifT hc9 H
      refine T.skip (hK3 _ _ (T.conseq (fr' := [(0, _), (2, _)]) ?_ ⟨rfl, rfl, trivial⟩ (fun _ s => s)))
      refine T.seq fun K5 hK5 => ?_
      refine T.block ?_
      refine T.region ?_
      refine RS.p (Pu.move rfl) rfl rfl ?_
      refine RS.p (Pu.move rfl) rfl rfl ?_
      obtain ⟨g10, H⟩ := gdE H
      refine RS.know (fun w s => s.row_fits (q := q0) (m := a0_l.length) (k := 0) rfl) fun hf11 => ?_
      refine RS.know (p := ∃ g cap, q0 = (some g, cap)) (fun w s => s.row_some (k := 0) rfl (pos_of (idx_of hf11.1 g10))) ?_
      rintro ⟨gg12, cc13, rfl⟩
      refine RS.p (Pu.indexSl sl26 rfl rfl g10) rfl rfl ?_
      refine RS.solid (Sd.st0 (α := Int) 0 (-99) rfl ty3 rfl rfl rfl (idx_of hf11.1 g10) rfl rfl (by decide) rfl (by rintro _ _ rfl; rfl)) rfl rfl fun _ => ?_
      refine RS.nil (hK5 _ _ (T.conseq (fr' := [(0, _), (2, _)]) ?_ ⟨rfl, rfl, trivial⟩ (fun _ s => s)))
      refine T.region ?_
      refine RS.p (Pu.move rfl) rfl rfl ?_
      obtain ⟨g14, H⟩ := gdE H
      refine RS.p (Pu.addS rfl rfl g14) rfl rfl ?_
      refine RS.p (Pu.assign rfl) rfl rfl ?_
      refine RS.nil (hL1 _ _ ((v6 + 1), (si l7 v6 (-99))) () H ⟨rfl, trivial⟩ ⟨rfl, trivial⟩ (fun w s => s))
    · have H := ifF hc9 H
      obtain rfl := hd1 _ H
      refine T.exitTo (by with_reducible (repeat (first | exact ExTo.here | exact ExTo.hereN | exact ExTo.deep (by repeat (first | exact NmTo.seq | apply NmTo.blk)) | apply ExTo.seq | refine ExTo.past (by decide) ?_))) (hJ1 _ _ l7 () HX1 ⟨rfl, trivial⟩ trivial (fun w s => s))
theorem thronglaw0_Within_walk (a0_i : Int) (a1_n : Int) (w : World) {r : Int} (H : thronglaw0_Within a0_i a1_n = some r) : Calls Try.prog 15 #[.int .i64 a0_i, .int .i64 a1_n] w fun e w' => e = .returned (.int .i64 r) ∧ Ext w w' := by
  unfold thronglaw0_Within at H
  refine T.enter (args := [_, _]) (S := Sat w []) Try.func15 rfl rfl (Sat.start w) ?_
  refine T.seq fun K1 hK1 => ?_
  refine T.region ?_
  refine RS.p (Pu.assign rfl) rfl rfl ?_
  refine RS.nil (hK1 _ _ ?_)
  refine T.seq fun K2 hK2 => ?_
  refine T.region ?_
  refine RS.p (Pu.move rfl) rfl rfl ?_
  refine RS.p (Pu.convUW us3 ul79 rfl) rfl rfl ?_
  refine RS.p (Pu.move rfl) rfl rfl ?_
  refine RS.p (Pu.convUW us3 ul79 rfl) rfl rfl ?_
  obtain ⟨g1, H⟩ := gdE H
  refine RS.p (Pu.remN rfl rfl g1) rfl rfl ?_
  obtain ⟨g2, H⟩ := gdE H
  refine RS.p (Pu.convS us79 ul3 rfl g2) rfl rfl ?_
  refine RS.p (Pu.assign rfl) rfl rfl ?_
  refine RS.nil (hK2 _ _ (T.conseq (fr' := [(4, _)]) ?_ ⟨rfl, trivial⟩ (fun _ s => s)))
  obtain rfl := Option.some.inj H
  refine T.retTo (by with_reducible ((repeat (first | apply RetTo.seq | apply RetTo.blk)); exact RetTo.refl _)) (Cont.ret1 rfl rfl fun w' s => ?_)
  exact ⟨rfl, s.ext⟩
theorem slices_Index_walk (a0_s : List Int) (a1_v : Int) (w : World) {v0 : Value} (h0 : R (hpOf w) a0_s [v0]) {r : Int} (H : slices_Index a0_s a1_v = some r) : Calls Try.prog 75 #[v0, .int .i64 a1_v] w fun e w' => e = .returned (.int .i64 r) ∧ Ext w w' := by
  have hm0 := R_max h0
  obtain ⟨p0, c0, rfl⟩ := R_form h0
  unfold slices_Index at H
  refine T.enter (args := [_, _]) (S := Sat w []) Try.func75 rfl rfl (Sat.start w) ?_
  refine T.seq fun K1 hK1 => ?_
  refine T.region ?_
  refine RS.p (Pu.assign rfl) rfl rfl ?_
  refine RS.nil (hK1 _ _ ?_)
  refine T.seq fun K2 hK2 => ?_
  refine T.seq fun K3 hK3 => ?_
  refine T.region ?_
  refine RS.p (Pu.move rfl) rfl rfl ?_
  refine RS.p (Pu.lenSl sl26 rfl) rfl rfl ?_
  refine RS.p (Pu.move rfl) rfl rfl ?_
  refine RS.nil (hK3 _ _ ?_)
  refine T.joinE (σ := Unit) (γ := Unit) H Ex.go [] trivial (fun _ _ => []) (fun _ _ => Sat w []) ?_ ?_
  · rintro ⟨⟩ ⟨⟩ H
    try dsimp only [Ex.then] at H
    refine Cont.conseq (fr' := []) ?_ trivial (fun _ s => s)
    refine id (hK2 _ _ ?_)
    refine T.seq fun K4 hK4 => ?_
    refine T.region ?_
    refine RS.p (Pu.assign rfl) rfl rfl ?_
    refine RS.nil (hK4 _ _ ?_)
    obtain rfl := Option.some.inj H
    refine T.retTo (by with_reducible ((repeat (first | apply RetTo.seq | apply RetTo.blk)); exact RetTo.refl _)) (Cont.ret1 rfl rfl fun w' s => ?_)
    exact ⟨rfl, s.ext⟩
  · intro z1 hz1 HX1 hJ1
    refine T.block ?_
    refine T.loopA (γ := Unit) hz1 [(0, _), (1, _), (7, _)] (fun v2 _ => [(8, .int .i64 v2)]) (fun v2 _ => Sat w []) () ⟨rfl, rfl, rfl, trivial⟩ ⟨rfl, trivial⟩ (fun w s => s) ?_
    rintro v2 ⟨⟩ y3 H hd1 KL1 hL1
    try dsimp only [Ex.then] at H
    refine T.conseq (fr' := [(8, _), (0, _), (1, _), (7, _)]) ?_ ⟨rfl, rfl, rfl, rfl, trivial⟩ (fun _ s => s)
    refine T.seq fun K5 hK5 => ?_
    refine T.region ?_
    refine RS.p (Pu.bin rfl rfl rfl) rfl rfl ?_
    refine RS.nil (hK5 _ _ ?_)
    refine T.seq fun K6 hK6 => ?_
    refine T.condP rfl (fun hc4 => ?_) (fun hc4 => ?_)
    · have H := ifT hc4 H
      refine T.skip (hK6 _ _ ?_)
      refine T.seq fun K7 hK7 => ?_
      refine T.block ?_
      refine T.seq fun K8 hK8 => ?_
      refine T.region ?_
      refine RS.p (Pu.move rfl) rfl rfl ?_
      refine RS.p (Pu.assign rfl) rfl rfl ?_
      refine RS.nil (hK8 _ _ ?_)
      refine T.seq fun K9 hK9 => ?_
      refine T.region ?_
      refine RS.p (Pu.move rfl) rfl rfl ?_
      refine RS.p (Pu.move rfl) rfl rfl ?_
      refine RS.p (Pu.move rfl) rfl rfl ?_
      obtain ⟨g5, H⟩ := gdE H
      obtain ⟨bl6, ol7, rfl⟩ := R_ptr h0 (ne_of_pos (pos_of g5))
      refine RS.p (Pu.indexSl sl26 rfl rfl g5) rfl rfl ?_
      refine RS.q (Qt.ld0 (α := Int) (Rd.base h0) ty3 rfl rfl g5 (by rintro _ _ rfl; rfl)) rfl rfl ?_
      refine RS.p (Pu.bin rfl rfl rfl) rfl rfl ?_
      refine RS.nil (hK9 _ _ ?_)
      refine T.condP rfl (fun hc8 => ?_) (fun hc8 => ?_)
      · have H := ifT hc8 H
        refine T.conseq (fr' := [(5, _)]) ?_ ⟨rfl, trivial⟩ (fun _ s => s)
        refine T.seq fun K10 hK10 => ?_
        refine T.region ?_
        refine RS.p (Pu.move rfl) rfl rfl ?_
        refine RS.p (Pu.assign rfl) rfl rfl ?_
        refine RS.nil (hK10 _ _ ?_)
        obtain rfl := hd1 _ H
        have H := HX1
        obtain rfl := Option.some.inj H
        refine T.retTo (by with_reducible ((repeat (first | apply RetTo.seq | apply RetTo.blk)); exact RetTo.refl _)) (Cont.ret1 rfl rfl fun w' s => ?_)
        exact ⟨rfl, s.ext⟩
      · have H := ifF hc8 H
        refine T.skip (hK7 _ _ (T.conseq (fr' := [(0, _), (1, _), (7, _), (8, _)]) ?_ ⟨rfl, rfl, rfl, rfl, trivial⟩ (fun _ s => s)))
        refine T.region ?_
        obtain ⟨g9, H⟩ := gdE H
        refine RS.p (Pu.addS rfl rfl g9) rfl rfl ?_
        refine RS.p (Pu.move rfl) rfl rfl ?_
        refine RS.nil (hL1 _ _ (v2 + 1) () H ⟨rfl, rfl, rfl, trivial⟩ ⟨rfl, trivial⟩ (fun w s => s))
    · have H := ifF hc4 H
      obtain rfl := hd1 _ H
      refine T.exitTo (by with_reducible (repeat (first | exact ExTo.here | exact ExTo.hereN | exact ExTo.deep (by repeat (first | exact NmTo.seq | apply NmTo.blk)) | apply ExTo.seq | refine ExTo.past (by decide) ?_))) (hJ1 _ _ () () HX1 trivial trivial (fun w s => s))
theorem cache_New_walk (a0_room : Int) (w : World) {r : Option Cach × Int} (H : cache_New a0_room = some r) : Calls Try.prog 40 #[.int .i64 a0_room] w fun e w' => ∃ g1 : Nat, e = .returned (.tuple #[.pointer (optA g1 r.1), .int .i64 r.2]) ∧ Sat w [optCh Cach_ch g1 r.1] w' := by
  unfold cache_New at H
  refine T.enter (args := [_]) (S := Sat w []) Try.func40 rfl rfl (Sat.start w) ?_
  refine T.seq fun K1 hK1 => ?_
  refine T.region ?_
  refine RS.p (Pu.assign rfl) rfl rfl ?_
  refine RS.p (Pu.assign rfl) rfl rfl ?_
  refine RS.nil (hK1 _ _ ?_)
  refine T.seq fun K2 hK2 => ?_
  refine T.seq fun K3 hK3 => ?_
  refine T.region ?_
  refine RS.p (Pu.move rfl) rfl rfl ?_
  refine RS.p (Pu.bin rfl rfl rfl) rfl rfl ?_
  refine RS.p (Pu.move rfl) rfl rfl ?_
  refine RS.joinV 3 9 (.bool (decide ((a0_room < 1) ∨ (4096 < a0_room)))) [(0, _)] ⟨rfl, trivial⟩ ?_ ?_
  · refine RS.nil (hK3 _ _ ?_)
    refine T.condP rfl (fun hc3 => ?_) (fun hc3 => ?_)
    · have H := ifT hc3 H
      refine T.seq fun K4 hK4 => ?_
      refine T.region ?_
      refine RS.p (Pu.assign rfl) rfl rfl ?_
      refine RS.p (Pu.assign rfl) rfl rfl ?_
      refine RS.nil (hK4 _ _ ?_)
      obtain rfl := Option.some.inj H
      refine T.retTo (by with_reducible ((repeat (first | apply RetTo.seq | apply RetTo.blk)); exact RetTo.refl _)) (Cont.ret2 rfl rfl rfl fun w' s => ?_)
      exact ⟨0, rfl, (s.deadRow).pick [0] (by decide) rfl⟩
    · have H := ifF hc3 H
      refine T.skip (hK2 _ _ ?_)
      refine T.seq fun K5 hK5 => ?_
      refine T.region ?_
      refine RS.p (Pu.move rfl) rfl rfl ?_
      refine RS.solid (Sd.makeMap) rfl rfl fun b4 => ?_
      refine RS.p (Pu.build (cells := [_, _, _, _, _]) st95 rfl rfl) rfl rfl ?_
      refine RS.solid (Sd.box (cs := [_, _, _, _, _]) rfl rfl) rfl rfl fun b5 => ?_
      refine RS.weakS (fun w s => s.nilRow (α := Int) 3) ?_
      refine RS.p (Pu.assign rfl) rfl rfl ?_
      refine RS.p (Pu.assign rfl) rfl rfl ?_
      refine RS.nil (hK5 _ _ (T.conseq (fr' := [(2, _), (3, _)]) ?_ ⟨rfl, rfl, trivial⟩ (fun _ s => s)))
      obtain rfl := Option.some.inj H
      refine T.retTo (by with_reducible ((repeat (first | apply RetTo.seq | apply RetTo.blk)); exact RetTo.refl _)) (Cont.ret2 rfl rfl rfl fun w' s => ?_)
      exact ⟨b5, rfl, Cach_shut (x := (⟨a0_room, mNil, ([] : List Int), 0, 0⟩ : Cach)) ⟨b4, (none, 0)⟩ (s.pick [1, 0, 2] (by decide) rfl)⟩
  · intro hJ2
    refine RS.splitP 6 rfl (fun hc1 => ?_) (fun hc1 => ?_)
    · refine RS.no rfl rfl ?_
      refine RS.no rfl rfl ?_
      refine RS.p (Pu.pickT rfl rfl) rfl rfl ?_
      exact hJ2 _ _ ⟨dOrT hc1, rfl, trivial⟩ (fun w s => s)
    · refine RS.p (Pu.move rfl) rfl rfl ?_
      refine RS.p (Pu.bin rfl rfl rfl) rfl rfl ?_
      refine RS.p (Pu.pickF rfl rfl) rfl rfl ?_
      exact hJ2 _ _ ⟨dOrF hc1, rfl, trivial⟩ (fun w s => s)
theorem cache_Cache_out_walk {w0 : World} {F : Ch} (g0 : Nat) (a0_c : Cach) (a1_key : Int) {r : Cach} (H : cache_Cache_out a0_c a1_key = some r) (w : World) (s : Sat w0 [Cach_ch g0 a0_c, F] w) : Calls Try.prog 66 #[.pointer (some ⟨g0, 0, none⟩), .int .i64 a1_key] w fun e w' => e = .returned (.tuple #[]) ∧ Sat w0 [Cach_ch g0 r, F] w' := by
  unfold cache_Cache_out at H
  refine T.enter (args := [_, _]) (S := Sat w0 [Cach_ch g0 a0_c, F]) Try.func66 rfl rfl (s) ?_
  refine T.ex (S' := fun q : Nat × (Option Nat × Nat) => Sat w0 [blk g0 [.int .i64 a0_c.room, .map (some q.1), rowV q.2 a0_c.keys.length, .int .i64 a0_c.hits, .int .i64 a0_c.misses] 95, F, mapCh q.1 a0_c.vals, row nilH 3 (rowV q.2 a0_c.keys.length) a0_c.keys]) (fun w s => Cach_open 0 rfl s) ?_
  rintro ⟨q1, q2⟩
  show T _ _ _ _ (Sat w0 [blk g0 [.int .i64 a0_c.room, .map (some q1), rowV q2 a0_c.keys.length, .int .i64 a0_c.hits, .int .i64 a0_c.misses] 95, F, mapCh q1 a0_c.vals, row nilH 3 (rowV q2 a0_c.keys.length) a0_c.keys]) _
  refine T.seq fun K1 hK1 => ?_
  refine T.region ?_
  refine RS.p (Pu.move rfl) rfl rfl ?_
  refine RS.p (Pu.nilCheck rfl) rfl rfl ?_
  refine RS.p (Pu.fieldAddr fd95_2 rfl) rfl rfl ?_
  refine RS.q (Qt.ldB 0 ty26 rfl rfl rfl) rfl rfl ?_
  refine RS.p (Pu.move rfl) rfl rfl ?_
  obtain ⟨x3, hx3, H⟩ := bindE H
  refine RS.q (Qt.call ent75 rfl fun w s => slices_Index_walk a0_c.keys a1_key w ((Rd.ofRowN 3 rfl) w s) hx3) rfl rfl ?_
  refine RS.p (Pu.assign rfl) rfl rfl ?_
  refine RS.nil (hK1 _ _ (T.conseq (fr' := [(0, _), (4, _)]) ?_ ⟨rfl, rfl, trivial⟩ (fun _ s => s)))
  refine T.seq fun K2 hK2 => ?_
  refine T.region ?_
  refine RS.p (Pu.move rfl) rfl rfl ?_
  refine RS.p (Pu.bin rfl rfl rfl) rfl rfl ?_
  refine RS.nil (hK2 _ _ ?_)
  refine T.condP rfl (fun hc4 => ?_) (fun hc4 => ?_)
  · have H := ifT hc4 H
    refine T.region ?_
    refine RS.p (Pu.move rfl) rfl rfl ?_
    refine RS.p (Pu.move rfl) rfl rfl ?_
    refine RS.p (Pu.nilCheck rfl) rfl rfl ?_
    refine RS.p (Pu.fieldAddr fd95_2 rfl) rfl rfl ?_
    refine RS.q (Qt.ldB 0 ty26 rfl rfl rfl) rfl rfl ?_
    refine RS.p (Pu.move rfl) rfl rfl ?_
    refine RS.p (Pu.move rfl) rfl rfl ?_
    obtain ⟨g5, H⟩ := gdE H
    refine RS.p (Pu.addS rfl rfl g5) rfl rfl ?_
    obtain ⟨x6, hx6, H⟩ := bindE H
    refine RS.solid (Sd.callM 3 ent76 rfl rfl (fun w s => slices_Delete_walk a0_c.keys x3 (x3 + 1) rfl  hx6 w s)) rfl rfl fun q7 => ?_
    refine RS.p (Pu.nilCheck rfl) rfl rfl ?_
    refine RS.p (Pu.fieldAddr fd95_2 rfl) rfl rfl ?_
    refine RS.solid (Sd.stB (cs' := [_, _, _, _, _]) 0 ty26 rfl rfl rfl rfl rfl rfl rfl rfl) rfl rfl fun _ => ?_
    obtain rfl := Option.some.inj H
    refine RS.nil (Cont.end0 rfl fun w' s => ?_)
    exact ⟨rfl, Cach_shut (x := (⟨a0_c.room, a0_c.vals, x6, a0_c.hits, a0_c.misses⟩ : Cach)) ⟨q1, q7⟩ (s.pick [1, 0, 2, 3] (by decide) rfl)⟩
  · have H := ifF hc4 H
    obtain rfl := Option.some.inj H
    refine T.skip (Cont.end0 rfl fun w' s => ?_)
    exact ⟨rfl, Cach_shut (x := a0_c) ⟨q1, q2⟩ (s.pick [1, 0, 2, 3] (by decide) rfl)⟩
theorem cache_Cache_use_walk {w0 : World} {F : Ch} (g0 : Nat) (a0_c : Cach) (a1_key : Int) {r : Cach} (H : cache_Cache_use a0_c a1_key = some r) (w : World) (s : Sat w0 [Cach_ch g0 a0_c, F] w) : Calls Try.prog 64 #[.pointer (some ⟨g0, 0, none⟩), .int .i64 a1_key] w fun e w' => e = .returned (.tuple #[]) ∧ Sat w0 [Cach_ch g0 r, F] w' := by
  unfold cache_Cache_use at H
  refine T.enter (args := [_, _]) (S := Sat w0 [Cach_ch g0 a0_c, F]) Try.func64 rfl rfl (s) ?_
  refine T.ex (S' := fun q : Nat × (Option Nat × Nat) => Sat w0 [blk g0 [.int .i64 a0_c.room, .map (some q.1), rowV q.2 a0_c.keys.length, .int .i64 a0_c.hits, .int .i64 a0_c.misses] 95, F, mapCh q.1 a0_c.vals, row nilH 3 (rowV q.2 a0_c.keys.length) a0_c.keys]) (fun w s => Cach_open 0 rfl s) ?_
  rintro ⟨q1, q2⟩
  show T _ _ _ _ (Sat w0 [blk g0 [.int .i64 a0_c.room, .map (some q1), rowV q2 a0_c.keys.length, .int .i64 a0_c.hits, .int .i64 a0_c.misses] 95, F, mapCh q1 a0_c.vals, row nilH 3 (rowV q2 a0_c.keys.length) a0_c.keys]) _
  refine T.seq fun K1 hK1 => ?_
  refine T.region ?_
  refine RS.p (Pu.move rfl) rfl rfl ?_
  refine RS.p (Pu.move rfl) rfl rfl ?_
  refine RS.weakS (fun w s => Cach_shut (R := [F]) (g := g0) (x := a0_c) ⟨q1, q2⟩ (s.pick [1, 0, 2, 3] (by decide) rfl)) ?_
  obtain ⟨x3, hx3, H⟩ := bindE H
  refine RS.solid (Sd.callF0 0 ent66 rfl rfl (fun w s => cache_Cache_out_walk g0 a0_c a1_key  hx3 w s)) rfl rfl fun _ => ?_
  refine RS.ex (S' := fun q : Nat × (Option Nat × Nat) => Sat w0 [blk g0 [.int .i64 x3.room, .map (some q.1), rowV q.2 x3.keys.length, .int .i64 x3.hits, .int .i64 x3.misses] 95, F, mapCh q.1 x3.vals, row nilH 3 (rowV q.2 x3.keys.length) x3.keys]) (fun w s => let ⟨q, s⟩ := Cach_open 0 rfl s; ⟨q, s⟩) ?_
  rintro ⟨q4, q5⟩
  show RS _ _ _ _ _ _ (Sat w0 [blk g0 [.int .i64 x3.room, .map (some q4), rowV q5 x3.keys.length, .int .i64 x3.hits, .int .i64 x3.misses] 95, F, mapCh q4 x3.vals, row nilH 3 (rowV q5 x3.keys.length) x3.keys])
  refine RS.nil (hK1 _ _ (T.conseq (fr' := [(0, _), (1, _)]) ?_ ⟨rfl, rfl, trivial⟩ (fun _ s => s)))
  refine T.region ?_
  refine RS.p (Pu.move rfl) rfl rfl ?_
  refine RS.p (Pu.move rfl) rfl rfl ?_
  refine RS.p (Pu.nilCheck rfl) rfl rfl ?_
  refine RS.p (Pu.fieldAddr fd95_2 rfl) rfl rfl ?_
  refine RS.q (Qt.ldB 0 ty26 rfl rfl rfl) rfl rfl ?_
  refine RS.p (Pu.move rfl) rfl rfl ?_
  refine RS.solid (Sd.litS (cs := [_]) sl26 zr3 rfl rfl rfl rfl rfl) rfl rfl fun b6 => ?_
  refine RS.weakS (fun w s => s.litRow (α := Int) (n := 1) 4 [a1_key] rfl (by decide) rfl ⟨[_], _, rfl, rfl, rfl⟩) ?_
  obtain ⟨x7, hx7, H⟩ := bindE H
  refine RS.solid (Sd.callM 3 ent73 rfl rfl (fun w s => slices_Insert_walk x3.keys 0 [a1_key] rfl (Rd.rest 4 rfl (by decide) (Rd.ofRowN 0 rfl)) hx7 w s)) rfl rfl fun q8 => ?_
  refine RS.p (Pu.nilCheck rfl) rfl rfl ?_
  refine RS.p (Pu.fieldAddr fd95_2 rfl) rfl rfl ?_
  refine RS.solid (Sd.stB (cs' := [_, _, _, _, _]) 0 ty26 rfl rfl rfl rfl rfl rfl rfl rfl) rfl rfl fun _ => ?_
  obtain rfl := Option.some.inj H
  refine RS.nil (Cont.end0 rfl fun w' s => ?_)
  exact ⟨rfl, Cach_shut (x := (⟨x3.room, x3.vals, x7, x3.hits, x3.misses⟩ : Cach)) ⟨q4, q8⟩ (s.pick [1, 0, 2, 3] (by decide) rfl)⟩
theorem cache_Cache_Put_walk {w0 : World} {F : Ch} (g0 : Nat) (a0_c : Cach) (a1_key : Int) (a2_val : Int) {r : Cach} (H : cache_Cache_Put a0_c a1_key a2_val = some r) (w : World) (s : Sat w0 [Cach_ch g0 a0_c, F] w) : Calls Try.prog 43 #[.pointer (some ⟨g0, 0, none⟩), .int .i64 a1_key, .int .i64 a2_val] w fun e w' => e = .returned (.tuple #[]) ∧ Sat w0 [Cach_ch g0 r, F] w' := by
  unfold cache_Cache_Put at H
  refine T.enter (args := [_, _, _]) (S := Sat w0 [Cach_ch g0 a0_c, F]) Try.func43 rfl rfl (s) ?_
  refine T.ex (S' := fun q : Nat × (Option Nat × Nat) => Sat w0 [blk g0 [.int .i64 a0_c.room, .map (some q.1), rowV q.2 a0_c.keys.length, .int .i64 a0_c.hits, .int .i64 a0_c.misses] 95, F, mapCh q.1 a0_c.vals, row nilH 3 (rowV q.2 a0_c.keys.length) a0_c.keys]) (fun w s => Cach_open 0 rfl s) ?_
  rintro ⟨q1, q2⟩
  show T _ _ _ _ (Sat w0 [blk g0 [.int .i64 a0_c.room, .map (some q1), rowV q2 a0_c.keys.length, .int .i64 a0_c.hits, .int .i64 a0_c.misses] 95, F, mapCh q1 a0_c.vals, row nilH 3 (rowV q2 a0_c.keys.length) a0_c.keys]) _
  refine T.seq fun K1 hK1 => ?_
  refine T.region ?_
  refine RS.p (Pu.move rfl) rfl rfl ?_
  refine RS.p (Pu.nilCheck rfl) rfl rfl ?_
  refine RS.p (Pu.fieldAddr fd95_1 rfl) rfl rfl ?_
  refine RS.q (Qt.ldB 0 ty88 rfl rfl rfl) rfl rfl ?_
  refine RS.p (Pu.move rfl) rfl rfl ?_
  refine RS.p (Pu.move rfl) rfl rfl ?_
  refine RS.solid (Sd.mapUpdate 2 mp88 rfl rfl rfl rfl) rfl rfl fun _ => ?_
  refine RS.nil (hK1 _ _ (T.conseq (fr' := [(0, _), (1, _)]) ?_ ⟨rfl, rfl, trivial⟩ (fun _ s => s)))
  refine T.seq fun K2 hK2 => ?_
  refine T.region ?_
  refine RS.p (Pu.move rfl) rfl rfl ?_
  refine RS.p (Pu.move rfl) rfl rfl ?_
  refine RS.weakS (fun w s => Cach_shut (R := [F]) (g := g0) (x := (⟨a0_c.room, (mPut a0_c.vals a1_key a2_val), a0_c.keys, a0_c.hits, a0_c.misses⟩ : Cach)) ⟨q1, q2⟩ (s.pick [1, 0, 2, 3] (by decide) rfl)) ?_
  obtain ⟨x3, hx3, H⟩ := bindE H
  refine RS.solid (Sd.callF0 0 ent64 rfl rfl (fun w s => cache_Cache_use_walk g0 (⟨a0_c.room, (mPut a0_c.vals a1_key a2_val), a0_c.keys, a0_c.hits, a0_c.misses⟩ : Cach) a1_key  hx3 w s)) rfl rfl fun _ => ?_
  refine RS.ex (S' := fun q : Nat × (Option Nat × Nat) => Sat w0 [blk g0 [.int .i64 x3.room, .map (some q.1), rowV q.2 x3.keys.length, .int .i64 x3.hits, .int .i64 x3.misses] 95, F, mapCh q.1 x3.vals, row nilH 3 (rowV q.2 x3.keys.length) x3.keys]) (fun w s => let ⟨q, s⟩ := Cach_open 0 rfl s; ⟨q, s⟩) ?_
  rintro ⟨q4, q5⟩
  show RS _ _ _ _ _ _ (Sat w0 [blk g0 [.int .i64 x3.room, .map (some q4), rowV q5 x3.keys.length, .int .i64 x3.hits, .int .i64 x3.misses] 95, F, mapCh q4 x3.vals, row nilH 3 (rowV q5 x3.keys.length) x3.keys])
  refine RS.nil (hK2 _ _ (T.conseq (fr' := [(0, _)]) ?_ ⟨rfl, trivial⟩ (fun _ s => s)))
  refine T.seq fun K3 hK3 => ?_
  refine T.region ?_
  refine RS.p (Pu.move rfl) rfl rfl ?_
  refine RS.p (Pu.nilCheck rfl) rfl rfl ?_
  refine RS.p (Pu.fieldAddr fd95_2 rfl) rfl rfl ?_
  refine RS.q (Qt.ldB 0 ty26 rfl rfl rfl) rfl rfl ?_
  refine RS.p (Pu.lenSl sl26 rfl) rfl rfl ?_
  refine RS.p (Pu.assign rfl) rfl rfl ?_
  refine RS.nil (hK3 _ _ (T.conseq (fr' := [(0, _), (6, _)]) ?_ ⟨rfl, rfl, trivial⟩ (fun _ s => s)))
  refine T.seq fun K4 hK4 => ?_
  refine T.region ?_
  refine RS.p (Pu.move rfl) rfl rfl ?_
  refine RS.p (Pu.move rfl) rfl rfl ?_
  refine RS.p (Pu.nilCheck rfl) rfl rfl ?_
  refine RS.p (Pu.fieldAddr fd95_0 rfl) rfl rfl ?_
  refine RS.q (Qt.ldB 0 ty3 rfl rfl rfl) rfl rfl ?_
  refine RS.p (Pu.bin rfl rfl rfl) rfl rfl ?_
  refine RS.nil (hK4 _ _ ?_)
  refine T.condP rfl (fun hc6 => ?_) (fun hc6 => ?_)
  · have H := ifT hc6 H
    refine T.conseq (fr' := [(0, _), (6, _)]) ?_ ⟨rfl, rfl, trivial⟩ (fun _ s => s)
    refine T.seq fun K5 hK5 => ?_
    refine T.drawnS [0, 1, 3] [(0, .pu), (1, .pu), (2, .pu), (3, .rd), (4, .pu), (5, .pu), (6, .pu), (7, .wk), (8, .pu), (9, .pu), (10, .pu), (11, .rd), (12, .br)] mixed (by kernel_rfl) rfl ?_
    refine RD.p (fun w s => s.pick [0, 1, 3] (by decide) rfl) rfl (Pu.move rfl) rfl rfl ?_
    refine RD.p (fun w s => s.pick [0, 1, 3] (by decide) rfl) rfl (Pu.nilCheck rfl) rfl rfl ?_
    refine RD.p (fun w s => s.pick [0, 1, 3] (by decide) rfl) rfl (Pu.fieldAddr fd95_1 rfl) rfl rfl ?_
    refine RD.q (fun w s => s.pick [0, 1, 3] (by decide) rfl) rfl (Qt.ldB 0 ty88 rfl rfl rfl) rfl rfl ?_
    refine RD.p (fun w s => s.pick [0, 1, 3] (by decide) rfl) rfl (Pu.move rfl) rfl rfl ?_
    refine RD.p (fun w s => s.pick [0, 1, 3] (by decide) rfl) rfl (Pu.nilCheck rfl) rfl rfl ?_
    refine RD.p (fun w s => s.pick [0, 1, 3] (by decide) rfl) rfl (Pu.fieldAddr fd95_2 rfl) rfl rfl ?_
    refine RD.w (fun w s => s.pick [0, 1, 3] (by decide) rfl) rfl (Qt.ldB 0 ty26 rfl rfl rfl) rfl rfl ?_
    refine RD.p (fun w s => s.pick [0, 1, 3] (by decide) rfl) rfl (Pu.move rfl) rfl rfl ?_
    obtain ⟨g7, H⟩ := gdE H
    refine RD.p (fun w s => s.pick [0, 1, 3] (by decide) rfl) rfl (Pu.subS rfl rfl g7) rfl rfl ?_
    obtain ⟨g8, H⟩ := gdE H
    refine RD.know (p := ∃ g cap, q5 = (some g, cap)) (fun w s => s.row_some (k := 3) rfl (pos_of g8)) ?_
    rintro ⟨gg9, cc10, rfl⟩
    refine RD.p (fun w s => s.pick [0, 1, 3] (by decide) rfl) rfl (Pu.indexSl sl26 rfl rfl g8) rfl rfl ?_
    refine RD.q (fun w s => s.pick [0, 1, 3] (by decide) rfl) rfl (Qt.ld0 (α := Int) (Rd.ofRowN 3 rfl) ty3 rfl rfl g8 (by rintro _ _ rfl; rfl)) rfl rfl ?_
    refine RD.solid rfl (.inr rfl) rfl rfl (Sd.mapDelete 2 mp88 rfl rfl rfl) (fun _ => ClE.sat _ _) (fun _ w s => s.pick [0, 1, 3] (by decide) rfl) (fun h => nomatch h) fun _ => ?_
    refine RD.nil (hK5 _ _ (T.conseq (fr' := [(0, _), (6, _)]) ?_ ⟨rfl, rfl, trivial⟩ (fun _ s => s)))
    refine T.region ?_
    refine RS.p (Pu.move rfl) rfl rfl ?_
    refine RS.p (Pu.move rfl) rfl rfl ?_
    refine RS.p (Pu.nilCheck rfl) rfl rfl ?_
    refine RS.p (Pu.fieldAddr fd95_2 rfl) rfl rfl ?_
    refine RS.q (Qt.ldB 0 ty26 rfl rfl rfl) rfl rfl ?_
    refine RS.p (Pu.move rfl) rfl rfl ?_
    obtain ⟨g11, H⟩ := gdE H
    refine RS.p (Pu.subS rfl rfl g11) rfl rfl ?_
    obtain ⟨g12, H⟩ := gdE H
    refine RS.know (fun w s => s.row_fits (q := (some gg9, cc10)) (m := x3.keys.length) (k := 3) rfl) fun hf13 => ?_
    refine RS.p (Pu.sliceH sl26 rfl rfl (le_cap g12 hf13.2.1)) rfl rfl ?_
    refine RS.weakS (fun w s => s.cutRow (q := (some gg9, cc10)) (m := x3.keys.length) 3 (((x3.keys.length : Int) - 1).toNat) rfl (le_nat g12)) ?_
    refine RS.p (Pu.nilCheck rfl) rfl rfl ?_
    refine RS.p (Pu.fieldAddr fd95_2 rfl) rfl rfl ?_
    refine RS.solid (Sd.stB (cs' := [_, _, _, _, _]) 0 ty26 rfl rfl rfl rfl rfl rfl rfl rfl) rfl rfl fun _ => ?_
    obtain rfl := Option.some.inj H
    refine RS.nil (Cont.end0 rfl fun w' s => ?_)
    exact ⟨rfl, Cach_shut (x := (⟨x3.room, (mDel x3.vals (gi x3.keys ((x3.keys.length : Int) - 1))), (x3.keys.take ((x3.keys.length : Int) - 1).toNat), x3.hits, x3.misses⟩ : Cach)) ⟨q4, (some gg9, cc10)⟩ ((Sat.cellB 0 (Sat.relen (q := (some gg9, cc10)) (m := ((x3.keys.length : Int) - 1).toNat) 3 s rfl) rfl (congrArg (fun z => [.int .i64 x3.room, .map (some q4), rowV (some gg9, cc10) z, .int .i64 x3.hits, .int .i64 x3.misses]) (s.row_fits (q := (some gg9, cc10)) (m := ((x3.keys.length : Int) - 1).toNat) (k := 3) rfl).1)).pick [1, 0, 2, 3] (by decide) rfl)⟩
  · have H := ifF hc6 H
    obtain rfl := Option.some.inj H
    refine T.skip (Cont.end0 rfl fun w' s => ?_)
    exact ⟨rfl, Cach_shut (x := x3) ⟨q4, q5⟩ (s.pick [1, 0, 2, 3] (by decide) rfl)⟩
theorem cache_Cache_Get_walk {w0 : World} {F : Ch} (g0 : Nat) (a0_c : Cach) (a1_key : Int) {r : Int × Bool × Cach} (H : cache_Cache_Get a0_c a1_key = some r) (w : World) (s : Sat w0 [Cach_ch g0 a0_c, F] w) : Calls Try.prog 45 #[.pointer (some ⟨g0, 0, none⟩), .int .i64 a1_key] w fun e w' => e = .returned (.tuple #[.int .i64 r.1, .bool r.2.1]) ∧ Sat w0 [Cach_ch g0 r.2.2, F] w' := by
  unfold cache_Cache_Get at H
  refine T.enter (args := [_, _]) (S := Sat w0 [Cach_ch g0 a0_c, F]) Try.func45 rfl rfl (s) ?_
  refine T.ex (S' := fun q : Nat × (Option Nat × Nat) => Sat w0 [blk g0 [.int .i64 a0_c.room, .map (some q.1), rowV q.2 a0_c.keys.length, .int .i64 a0_c.hits, .int .i64 a0_c.misses] 95, F, mapCh q.1 a0_c.vals, row nilH 3 (rowV q.2 a0_c.keys.length) a0_c.keys]) (fun w s => Cach_open 0 rfl s) ?_
  rintro ⟨q1, q2⟩
  show T _ _ _ _ (Sat w0 [blk g0 [.int .i64 a0_c.room, .map (some q1), rowV q2 a0_c.keys.length, .int .i64 a0_c.hits, .int .i64 a0_c.misses] 95, F, mapCh q1 a0_c.vals, row nilH 3 (rowV q2 a0_c.keys.length) a0_c.keys]) _
  refine T.seq fun K1 hK1 => ?_
  refine T.region ?_
  refine RS.p (Pu.assign rfl) rfl rfl ?_
  refine RS.p (Pu.assign rfl) rfl rfl ?_
  refine RS.nil (hK1 _ _ ?_)
  refine T.seq fun K2 hK2 => ?_
  refine T.region ?_
  refine RS.p (Pu.move rfl) rfl rfl ?_
  refine RS.p (Pu.nilCheck rfl) rfl rfl ?_
  refine RS.p (Pu.fieldAddr fd95_1 rfl) rfl rfl ?_
  refine RS.q (Qt.ldB 0 ty88 rfl rfl rfl) rfl rfl ?_
  refine RS.p (Pu.move rfl) rfl rfl ?_
  refine RS.q (Qt.lookup2 2 mp88 rfl rfl rfl) rfl rfl ?_
  refine RS.p (Pu.move rfl) rfl rfl ?_
  refine RS.p (Pu.extract rfl rfl) rfl rfl ?_
  refine RS.p (Pu.extract rfl rfl) rfl rfl ?_
  refine RS.p (Pu.assign rfl) rfl rfl ?_
  refine RS.p (Pu.assign rfl) rfl rfl ?_
  refine RS.nil (hK2 _ _ (T.conseq (fr' := [(0, _), (1, _), (6, _), (7, _)]) ?_ ⟨rfl, rfl, rfl, rfl, trivial⟩ (fun _ s => s)))
  refine T.seq fun K3 hK3 => ?_
  refine T.seq fun K4 hK4 => ?_
  refine T.region ?_
  refine RS.p (Pu.move rfl) rfl rfl ?_
  refine RS.p (Pu.not rfl) rfl rfl ?_
  refine RS.nil (hK4 _ _ ?_)
  refine T.cond rfl (fun hc3 => ?_) (fun hc3 => ?_)
  · have H := ifT hc3 H
    refine T.conseq (fr' := [(0, _)]) ?_ ⟨rfl, trivial⟩ (fun _ s => s)
    refine T.seq fun K5 hK5 => ?_
    refine T.region ?_
    refine RS.p (Pu.move rfl) rfl rfl ?_
    refine RS.p (Pu.nilCheck rfl) rfl rfl ?_
    refine RS.p (Pu.fieldAddr fd95_4 rfl) rfl rfl ?_
    obtain ⟨g4, H⟩ := gdE H
    refine RS.solid (Sd.callF0 0 ent65 rfl rfl (fun w s => atomicAdd_walk (cs' := [_, _, _, _, _]) s rfl g4 rfl)) rfl rfl fun _ => ?_
    refine RS.nil (hK5 _ _ (T.conseq (fr' := []) ?_ trivial (fun _ s => s)))
    refine T.seq fun K6 hK6 => ?_
    refine T.region ?_
    refine RS.p (Pu.assign rfl) rfl rfl ?_
    refine RS.p (Pu.assign rfl) rfl rfl ?_
    refine RS.nil (hK6 _ _ ?_)
    obtain rfl := Option.some.inj H
    refine T.retTo (by with_reducible ((repeat (first | apply RetTo.seq | apply RetTo.blk)); exact RetTo.refl _)) (Cont.ret2 rfl rfl rfl fun w' s => ?_)
    exact ⟨rfl, Cach_shut (x := (⟨a0_c.room, a0_c.vals, a0_c.keys, a0_c.hits, (a0_c.misses + 1)⟩ : Cach)) ⟨q1, q2⟩ (s.pick [1, 0, 2, 3] (by decide) rfl)⟩
  · have H := ifB hc3 H
    refine T.skip (hK3 _ _ (T.conseq (fr' := [(0, _), (1, _), (6, _)]) ?_ ⟨rfl, rfl, rfl, trivial⟩ (fun _ s => s)))
    refine T.seq fun K7 hK7 => ?_
    refine T.region ?_
    refine RS.p (Pu.move rfl) rfl rfl ?_
    refine RS.p (Pu.nilCheck rfl) rfl rfl ?_
    refine RS.p (Pu.fieldAddr fd95_3 rfl) rfl rfl ?_
    obtain ⟨g5, H⟩ := gdE H
    refine RS.solid (Sd.callF0 0 ent65 rfl rfl (fun w s => atomicAdd_walk (cs' := [_, _, _, _, _]) s rfl g5 rfl)) rfl rfl fun _ => ?_
    refine RS.nil (hK7 _ _ (T.conseq (fr' := [(0, _), (1, _), (6, _)]) ?_ ⟨rfl, rfl, rfl, trivial⟩ (fun _ s => s)))
    refine T.seq fun K8 hK8 => ?_
    refine T.region ?_
    refine RS.p (Pu.move rfl) rfl rfl ?_
    refine RS.p (Pu.move rfl) rfl rfl ?_
    refine RS.weakS (fun w s => Cach_shut (R := [F]) (g := g0) (x := (⟨a0_c.room, a0_c.vals, a0_c.keys, (a0_c.hits + 1), a0_c.misses⟩ : Cach)) ⟨q1, q2⟩ (s.pick [1, 0, 2, 3] (by decide) rfl)) ?_
    obtain ⟨x6, hx6, H⟩ := bindE H
    refine RS.solid (Sd.callF0 0 ent64 rfl rfl (fun w s => cache_Cache_use_walk g0 (⟨a0_c.room, a0_c.vals, a0_c.keys, (a0_c.hits + 1), a0_c.misses⟩ : Cach) a1_key  hx6 w s)) rfl rfl fun _ => ?_
    refine RS.ex (S' := fun q : Nat × (Option Nat × Nat) => Sat w0 [blk g0 [.int .i64 x6.room, .map (some q.1), rowV q.2 x6.keys.length, .int .i64 x6.hits, .int .i64 x6.misses] 95, F, mapCh q.1 x6.vals, row nilH 3 (rowV q.2 x6.keys.length) x6.keys]) (fun w s => let ⟨q, s⟩ := Cach_open 0 rfl s; ⟨q, s⟩) ?_
    rintro ⟨q7, q8⟩
    show RS _ _ _ _ _ _ (Sat w0 [blk g0 [.int .i64 x6.room, .map (some q7), rowV q8 x6.keys.length, .int .i64 x6.hits, .int .i64 x6.misses] 95, F, mapCh q7 x6.vals, row nilH 3 (rowV q8 x6.keys.length) x6.keys])
    refine RS.nil (hK8 _ _ (T.conseq (fr' := [(6, _)]) ?_ ⟨rfl, trivial⟩ (fun _ s => s)))
    refine T.seq fun K9 hK9 => ?_
    refine T.region ?_
    refine RS.p (Pu.move rfl) rfl rfl ?_
    refine RS.p (Pu.assign rfl) rfl rfl ?_
    refine RS.p (Pu.assign rfl) rfl rfl ?_
    refine RS.nil (hK9 _ _ ?_)
    obtain rfl := Option.some.inj H
    refine T.retTo (by with_reducible ((repeat (first | apply RetTo.seq | apply RetTo.blk)); exact RetTo.refl _)) (Cont.ret2 rfl rfl rfl fun w' s => ?_)
    exact ⟨rfl, Cach_shut (x := x6) ⟨q7, q8⟩ (s.pick [1, 0, 2, 3] (by decide) rfl)⟩
theorem cache_Cache_Drop_walk {w0 : World} {F : Ch} (g0 : Nat) (a0_c : Cach) (a1_key : Int) {r : Bool × Cach} (H : cache_Cache_Drop a0_c a1_key = some r) (w : World) (s : Sat w0 [Cach_ch g0 a0_c, F] w) : Calls Try.prog 49 #[.pointer (some ⟨g0, 0, none⟩), .int .i64 a1_key] w fun e w' => e = .returned (.bool r.1) ∧ Sat w0 [Cach_ch g0 r.2, F] w' := by
  unfold cache_Cache_Drop at H
  refine T.enter (args := [_, _]) (S := Sat w0 [Cach_ch g0 a0_c, F]) Try.func49 rfl rfl (s) ?_
  refine T.ex (S' := fun q : Nat × (Option Nat × Nat) => Sat w0 [blk g0 [.int .i64 a0_c.room, .map (some q.1), rowV q.2 a0_c.keys.length, .int .i64 a0_c.hits, .int .i64 a0_c.misses] 95, F, mapCh q.1 a0_c.vals, row nilH 3 (rowV q.2 a0_c.keys.length) a0_c.keys]) (fun w s => Cach_open 0 rfl s) ?_
  rintro ⟨q1, q2⟩
  show T _ _ _ _ (Sat w0 [blk g0 [.int .i64 a0_c.room, .map (some q1), rowV q2 a0_c.keys.length, .int .i64 a0_c.hits, .int .i64 a0_c.misses] 95, F, mapCh q1 a0_c.vals, row nilH 3 (rowV q2 a0_c.keys.length) a0_c.keys]) _
  refine T.seq fun K1 hK1 => ?_
  refine T.region ?_
  refine RS.p (Pu.assign rfl) rfl rfl ?_
  refine RS.nil (hK1 _ _ ?_)
  refine T.seq fun K2 hK2 => ?_
  refine T.region ?_
  refine RS.p (Pu.move rfl) rfl rfl ?_
  refine RS.p (Pu.nilCheck rfl) rfl rfl ?_
  refine RS.p (Pu.fieldAddr fd95_1 rfl) rfl rfl ?_
  refine RS.q (Qt.ldB 0 ty88 rfl rfl rfl) rfl rfl ?_
  refine RS.p (Pu.move rfl) rfl rfl ?_
  refine RS.q (Qt.lookup2 2 mp88 rfl rfl rfl) rfl rfl ?_
  refine RS.p (Pu.move rfl) rfl rfl ?_
  refine RS.p (Pu.extract rfl rfl) rfl rfl ?_
  refine RS.p (Pu.extract rfl rfl) rfl rfl ?_
  refine RS.p (Pu.assign rfl) rfl rfl ?_
  refine RS.p (Pu.assign rfl) rfl rfl ?_
  refine RS.nil (hK2 _ _ (T.conseq (fr' := [(0, _), (1, _), (6, _)]) ?_ ⟨rfl, rfl, rfl, trivial⟩ (fun _ s => s)))
  refine T.seq fun K3 hK3 => ?_
  refine T.region ?_
  refine RS.p (Pu.move rfl) rfl rfl ?_
  refine RS.p (Pu.nilCheck rfl) rfl rfl ?_
  refine RS.p (Pu.fieldAddr fd95_1 rfl) rfl rfl ?_
  refine RS.q (Qt.ldB 0 ty88 rfl rfl rfl) rfl rfl ?_
  refine RS.p (Pu.move rfl) rfl rfl ?_
  refine RS.solid (Sd.mapDelete 2 mp88 rfl rfl rfl) rfl rfl fun _ => ?_
  refine RS.nil (hK3 _ _ (T.conseq (fr' := [(0, _), (1, _), (6, _)]) ?_ ⟨rfl, rfl, rfl, trivial⟩ (fun _ s => s)))
  refine T.seq fun K4 hK4 => ?_
  refine T.region ?_
  refine RS.p (Pu.move rfl) rfl rfl ?_
  refine RS.p (Pu.move rfl) rfl rfl ?_
  refine RS.weakS (fun w s => Cach_shut (R := [F]) (g := g0) (x := (⟨a0_c.room, (mDel a0_c.vals a1_key), a0_c.keys, a0_c.hits, a0_c.misses⟩ : Cach)) ⟨q1, q2⟩ (s.pick [1, 0, 2, 3] (by decide) rfl)) ?_
  obtain ⟨x3, hx3, H⟩ := bindE H
  refine RS.solid (Sd.callF0 0 ent66 rfl rfl (fun w s => cache_Cache_out_walk g0 (⟨a0_c.room, (mDel a0_c.vals a1_key), a0_c.keys, a0_c.hits, a0_c.misses⟩ : Cach) a1_key  hx3 w s)) rfl rfl fun _ => ?_
  refine RS.ex (S' := fun q : Nat × (Option Nat × Nat) => Sat w0 [blk g0 [.int .i64 x3.room, .map (some q.1), rowV q.2 x3.keys.length, .int .i64 x3.hits, .int .i64 x3.misses] 95, F, mapCh q.1 x3.vals, row nilH 3 (rowV q.2 x3.keys.length) x3.keys]) (fun w s => let ⟨q, s⟩ := Cach_open 0 rfl s; ⟨q, s⟩) ?_
  rintro ⟨q4, q5⟩
  show RS _ _ _ _ _ _ (Sat w0 [blk g0 [.int .i64 x3.room, .map (some q4), rowV q5 x3.keys.length, .int .i64 x3.hits, .int .i64 x3.misses] 95, F, mapCh q4 x3.vals, row nilH 3 (rowV q5 x3.keys.length) x3.keys])
  refine RS.nil (hK4 _ _ (T.conseq (fr' := [(6, _)]) ?_ ⟨rfl, trivial⟩ (fun _ s => s)))
  refine T.seq fun K5 hK5 => ?_
  refine T.region ?_
  refine RS.p (Pu.move rfl) rfl rfl ?_
  refine RS.p (Pu.assign rfl) rfl rfl ?_
  refine RS.nil (hK5 _ _ ?_)
  obtain rfl := Option.some.inj H
  refine T.retTo (by with_reducible ((repeat (first | apply RetTo.seq | apply RetTo.blk)); exact RetTo.refl _)) (Cont.ret1 rfl rfl fun w' s => ?_)
  exact ⟨rfl, Cach_shut (x := x3) ⟨q4, q5⟩ (s.pick [1, 0, 2, 3] (by decide) rfl)⟩
theorem cache_Cache_Clear_walk {w0 : World} {F : Ch} (g0 : Nat) (a0_c : Cach) {r : Cach} (H : cache_Cache_Clear a0_c = some r) (w : World) (s : Sat w0 [Cach_ch g0 a0_c, F] w) : Calls Try.prog 51 #[.pointer (some ⟨g0, 0, none⟩)] w fun e w' => e = .returned (.tuple #[]) ∧ Sat w0 [Cach_ch g0 r, F] w' := by
  unfold cache_Cache_Clear at H
  refine T.enter (args := [_]) (S := Sat w0 [Cach_ch g0 a0_c, F]) Try.func51 rfl rfl (s) ?_
  refine T.ex (S' := fun q : Nat × (Option Nat × Nat) => Sat w0 [blk g0 [.int .i64 a0_c.room, .map (some q.1), rowV q.2 a0_c.keys.length, .int .i64 a0_c.hits, .int .i64 a0_c.misses] 95, F, mapCh q.1 a0_c.vals, row nilH 3 (rowV q.2 a0_c.keys.length) a0_c.keys]) (fun w s => Cach_open 0 rfl s) ?_
  rintro ⟨q1, q2⟩
  show T _ _ _ _ (Sat w0 [blk g0 [.int .i64 a0_c.room, .map (some q1), rowV q2 a0_c.keys.length, .int .i64 a0_c.hits, .int .i64 a0_c.misses] 95, F, mapCh q1 a0_c.vals, row nilH 3 (rowV q2 a0_c.keys.length) a0_c.keys]) _
  refine T.seq fun K1 hK1 => ?_
  refine T.region ?_
  refine RS.p (Pu.move rfl) rfl rfl ?_
  refine RS.p (Pu.nilCheck rfl) rfl rfl ?_
  refine RS.p (Pu.fieldAddr fd95_1 rfl) rfl rfl ?_
  refine RS.q (Qt.ldB 0 ty88 rfl rfl rfl) rfl rfl ?_
  refine RS.solid (Sd.mapClear 2 mp88 rfl rfl) rfl rfl fun _ => ?_
  refine RS.nil (hK1 _ _ (T.conseq (fr' := [(0, _)]) ?_ ⟨rfl, trivial⟩ (fun _ s => s)))
  refine T.region ?_
  refine RS.p (Pu.move rfl) rfl rfl ?_
  refine RS.p (Pu.nilCheck rfl) rfl rfl ?_
  refine RS.p (Pu.fieldAddr fd95_2 rfl) rfl rfl ?_
  refine RS.solid (Sd.stB (cs' := [_, _, _, _, _]) 0 ty26 rfl rfl rfl rfl rfl rfl rfl rfl) rfl rfl fun _ => ?_
  obtain rfl := Option.some.inj H
  refine RS.nil (Cont.end0 rfl fun w' s => ?_)
  exact ⟨rfl, Cach_shut (x := (⟨a0_c.room, mNil, [], a0_c.hits, a0_c.misses⟩ : Cach)) ⟨q1, (none, 0)⟩ ((s.nilRow (α := Int) 3).pick [1, 0, 2, 4] (by decide) rfl)⟩
theorem cache_Cache_Keys_walk {w0 : World} {F : Ch} (g0 : Nat) (a0_c : Cach) {r : List Int} (H : cache_Cache_Keys a0_c = some r) (w : World) (s : Sat w0 [Cach_ch g0 a0_c, F] w) : Calls Try.prog 44 #[.pointer (some ⟨g0, 0, none⟩)] w fun e w' => ∃ q1 : (Option Nat × Nat), e = .returned (rowV q1 r.length) ∧ Sat w0 ([Cach_ch g0 a0_c, F] ++ [row nilH 3 (rowV q1 r.length) r]) w' := by
  unfold cache_Cache_Keys at H
  refine T.enter (args := [_]) (S := Sat w0 [Cach_ch g0 a0_c, F]) Try.func44 rfl rfl (s) ?_
  refine T.ex (S' := fun q : Nat × (Option Nat × Nat) => Sat w0 [blk g0 [.int .i64 a0_c.room, .map (some q.1), rowV q.2 a0_c.keys.length, .int .i64 a0_c.hits, .int .i64 a0_c.misses] 95, F, mapCh q.1 a0_c.vals, row nilH 3 (rowV q.2 a0_c.keys.length) a0_c.keys]) (fun w s => Cach_open 0 rfl s) ?_
  rintro ⟨q1, q2⟩
  show T _ _ _ _ (Sat w0 [blk g0 [.int .i64 a0_c.room, .map (some q1), rowV q2 a0_c.keys.length, .int .i64 a0_c.hits, .int .i64 a0_c.misses] 95, F, mapCh q1 a0_c.vals, row nilH 3 (rowV q2 a0_c.keys.length) a0_c.keys]) _
  refine T.seq fun K1 hK1 => ?_
  refine T.region ?_
  refine RS.p (Pu.assign rfl) rfl rfl ?_
  refine RS.nil (hK1 _ _ ?_)
  refine T.seq fun K2 hK2 => ?_
  refine T.region ?_
  refine RS.p (Pu.move rfl) rfl rfl ?_
  refine RS.p (Pu.nilCheck rfl) rfl rfl ?_
  refine RS.p (Pu.fieldAddr fd95_2 rfl) rfl rfl ?_
  refine RS.q (Qt.ldB 0 ty26 rfl rfl rfl) rfl rfl ?_
  obtain ⟨x3, hx3, H⟩ := bindE H
  refine RS.solid (Sd.callN ent63 rfl (fun w s => slices_Clone_Int_walk a0_c.keys w ((Rd.ofRowN 3 rfl) w s) hx3)) rfl rfl fun q4 => ?_
  refine RS.p (Pu.assign rfl) rfl rfl ?_
  refine RS.nil (hK2 _ _ (T.conseq (fr' := [(2, _)]) ?_ ⟨rfl, trivial⟩ (fun _ s => s)))
  obtain rfl := Option.some.inj H
  refine T.retTo (by with_reducible ((repeat (first | apply RetTo.seq | apply RetTo.blk)); exact RetTo.refl _)) (Cont.ret1 rfl rfl fun w' s => ?_)
  exact ⟨q4, rfl, Cach_shut (x := a0_c) ⟨q1, q2⟩ (s.pick [1, 4, 0, 2, 3] (by decide) rfl)⟩
theorem cache_Cache_Hits_walk {w0 : World} {F : Ch} (g0 : Nat) (a0_c : Cach) {r : Int} (H : cache_Cache_Hits a0_c = some r) (w : World) (s : Sat w0 [Cach_ch g0 a0_c, F] w) : Calls Try.prog 53 #[.pointer (some ⟨g0, 0, none⟩)] w fun e w' => e = .returned (.int .i64 r) ∧ Sat w0 [Cach_ch g0 a0_c, F] w' := by
  unfold cache_Cache_Hits at H
  refine T.enter (args := [_]) (S := Sat w0 [Cach_ch g0 a0_c, F]) Try.func53 rfl rfl (s) ?_
  refine T.ex (S' := fun q : Nat × (Option Nat × Nat) => Sat w0 [blk g0 [.int .i64 a0_c.room, .map (some q.1), rowV q.2 a0_c.keys.length, .int .i64 a0_c.hits, .int .i64 a0_c.misses] 95, F, mapCh q.1 a0_c.vals, row nilH 3 (rowV q.2 a0_c.keys.length) a0_c.keys]) (fun w s => Cach_open 0 rfl s) ?_
  rintro ⟨q1, q2⟩
  show T _ _ _ _ (Sat w0 [blk g0 [.int .i64 a0_c.room, .map (some q1), rowV q2 a0_c.keys.length, .int .i64 a0_c.hits, .int .i64 a0_c.misses] 95, F, mapCh q1 a0_c.vals, row nilH 3 (rowV q2 a0_c.keys.length) a0_c.keys]) _
  refine T.seq fun K1 hK1 => ?_
  refine T.region ?_
  refine RS.p (Pu.assign rfl) rfl rfl ?_
  refine RS.nil (hK1 _ _ ?_)
  refine T.seq fun K2 hK2 => ?_
  refine T.region ?_
  refine RS.p (Pu.move rfl) rfl rfl ?_
  refine RS.p (Pu.nilCheck rfl) rfl rfl ?_
  refine RS.p (Pu.fieldAddr fd95_3 rfl) rfl rfl ?_
  refine RS.q (Qt.call ent68 rfl fun w s => atomicLoad_walk (s.focus (k := 0) rfl) rfl) rfl rfl ?_
  refine RS.p (Pu.assign rfl) rfl rfl ?_
  refine RS.nil (hK2 _ _ (T.conseq (fr' := [(2, _)]) ?_ ⟨rfl, trivial⟩ (fun _ s => s)))
  obtain rfl := Option.some.inj H
  refine T.retTo (by with_reducible ((repeat (first | apply RetTo.seq | apply RetTo.blk)); exact RetTo.refl _)) (Cont.ret1 rfl rfl fun w' s => ?_)
  exact ⟨rfl, Cach_shut (x := a0_c) ⟨q1, q2⟩ (s.pick [1, 0, 2, 3] (by decide) rfl)⟩
theorem cache_Cache_Misses_walk {w0 : World} {F : Ch} (g0 : Nat) (a0_c : Cach) {r : Int} (H : cache_Cache_Misses a0_c = some r) (w : World) (s : Sat w0 [Cach_ch g0 a0_c, F] w) : Calls Try.prog 54 #[.pointer (some ⟨g0, 0, none⟩)] w fun e w' => e = .returned (.int .i64 r) ∧ Sat w0 [Cach_ch g0 a0_c, F] w' := by
  unfold cache_Cache_Misses at H
  refine T.enter (args := [_]) (S := Sat w0 [Cach_ch g0 a0_c, F]) Try.func54 rfl rfl (s) ?_
  refine T.ex (S' := fun q : Nat × (Option Nat × Nat) => Sat w0 [blk g0 [.int .i64 a0_c.room, .map (some q.1), rowV q.2 a0_c.keys.length, .int .i64 a0_c.hits, .int .i64 a0_c.misses] 95, F, mapCh q.1 a0_c.vals, row nilH 3 (rowV q.2 a0_c.keys.length) a0_c.keys]) (fun w s => Cach_open 0 rfl s) ?_
  rintro ⟨q1, q2⟩
  show T _ _ _ _ (Sat w0 [blk g0 [.int .i64 a0_c.room, .map (some q1), rowV q2 a0_c.keys.length, .int .i64 a0_c.hits, .int .i64 a0_c.misses] 95, F, mapCh q1 a0_c.vals, row nilH 3 (rowV q2 a0_c.keys.length) a0_c.keys]) _
  refine T.seq fun K1 hK1 => ?_
  refine T.region ?_
  refine RS.p (Pu.assign rfl) rfl rfl ?_
  refine RS.nil (hK1 _ _ ?_)
  refine T.seq fun K2 hK2 => ?_
  refine T.region ?_
  refine RS.p (Pu.move rfl) rfl rfl ?_
  refine RS.p (Pu.nilCheck rfl) rfl rfl ?_
  refine RS.p (Pu.fieldAddr fd95_4 rfl) rfl rfl ?_
  refine RS.q (Qt.call ent68 rfl fun w s => atomicLoad_walk (s.focus (k := 0) rfl) rfl) rfl rfl ?_
  refine RS.p (Pu.assign rfl) rfl rfl ?_
  refine RS.nil (hK2 _ _ (T.conseq (fr' := [(2, _)]) ?_ ⟨rfl, trivial⟩ (fun _ s => s)))
  obtain rfl := Option.some.inj H
  refine T.retTo (by with_reducible ((repeat (first | apply RetTo.seq | apply RetTo.blk)); exact RetTo.refl _)) (Cont.ret1 rfl rfl fun w' s => ?_)
  exact ⟨rfl, Cach_shut (x := a0_c) ⟨q1, q2⟩ (s.pick [1, 0, 2, 3] (by decide) rfl)⟩
theorem throngref15_Room_walk (a0_n : Int) (w : World) {r : Bool} (H : throngref15_Room a0_n = some r) : Calls Try.prog 47 #[.int .i64 a0_n] w fun e w' => e = .returned (.bool r) ∧ Ext w w' := by
  unfold throngref15_Room at H
  refine T.enter (args := [_]) (S := Sat w []) Try.func47 rfl rfl (Sat.start w) ?_
  refine T.seq fun K1 hK1 => ?_
  refine T.region ?_
  refine RS.p (Pu.assign rfl) rfl rfl ?_
  refine RS.nil (hK1 _ _ ?_)
  refine T.seq fun K2 hK2 => ?_
  refine T.region ?_
  refine RS.p (Pu.move rfl) rfl rfl ?_
  refine RS.p (Pu.bin rfl rfl rfl) rfl rfl ?_
  refine RS.p (Pu.move rfl) rfl rfl ?_
  refine RS.joinV 3 8 (.bool (decide ((1 ≤ a0_n) ∧ (a0_n ≤ 4096)))) [(2, _)] ⟨rfl, trivial⟩ ?_ ?_
  · refine RS.p (Pu.assign rfl) rfl rfl ?_
    refine RS.nil (hK2 _ _ ?_)
    obtain rfl := Option.some.inj H
    refine T.retTo (by with_reducible ((repeat (first | apply RetTo.seq | apply RetTo.blk)); exact RetTo.refl _)) (Cont.ret1 rfl rfl fun w' s => ?_)
    exact ⟨rfl, s.ext⟩
  · intro hJ2
    refine RS.splitP 5 rfl (fun hc1 => ?_) (fun hc1 => ?_)
    · refine RS.p (Pu.move rfl) rfl rfl ?_
      refine RS.p (Pu.bin rfl rfl rfl) rfl rfl ?_
      refine RS.p (Pu.pickT rfl rfl) rfl rfl ?_
      exact hJ2 _ _ ⟨dAndT hc1, rfl, trivial⟩ (fun w s => s)
    · refine RS.no rfl rfl ?_
      refine RS.no rfl rfl ?_
      refine RS.p (Pu.pickF rfl rfl) rfl rfl ?_
      exact hJ2 _ _ ⟨dAndF hc1, rfl, trivial⟩ (fun w s => s)
theorem throngref15_Cache_drop_walk {w0 : World} {F : Ch} (g0 : Nat) (a0_c : CRef) (a1_i : Int) {r : CRef} (H : throngref15_Cache_drop a0_c a1_i = some r) (w : World) (s : Sat w0 [CRef_ch g0 a0_c, F] w) : Calls Try.prog 67 #[.pointer (some ⟨g0, 0, none⟩), .int .i64 a1_i] w fun e w' => e = .returned (.tuple #[]) ∧ Sat w0 [CRef_ch g0 r, F] w' := by
  unfold throngref15_Cache_drop at H
  refine T.enter (args := [_, _]) (S := Sat w0 [CRef_ch g0 a0_c, F]) Try.func67 rfl rfl (s) ?_
  refine T.ex (S' := fun q : (Option Nat × Nat) × (Option Nat × Nat) => Sat w0 [blk g0 [.int .i64 a0_c.room, .int .i64 a0_c.hits, .int .i64 a0_c.misses, rowV q.1 a0_c.k.length, rowV q.2 a0_c.v.length] 75, F, row nilH 3 (rowV q.1 a0_c.k.length) a0_c.k, row nilH 3 (rowV q.2 a0_c.v.length) a0_c.v]) (fun w s => CRef_open 0 rfl s) ?_
  rintro ⟨q1, q2⟩
  show T _ _ _ _ (Sat w0 [blk g0 [.int .i64 a0_c.room, .int .i64 a0_c.hits, .int .i64 a0_c.misses, rowV q1 a0_c.k.length, rowV q2 a0_c.v.length] 75, F, row nilH 3 (rowV q1 a0_c.k.length) a0_c.k, row nilH 3 (rowV q2 a0_c.v.length) a0_c.v]) _
  refine T.seq fun K1 hK1 => ?_
  refine T.drawn (fun _ => True) [(0, .pu), (1, .pu), (2, .pu), (3, .rd), (4, .pu), (5, .pu), (7, .pu), (8, .pu), (9, .pu), (10, .rd), (11, .pu), (12, .pu), (6, .so), (13, .so), (14, .pu), (15, .pu)] mixed (ClE.sat _ _) (by kernel_rfl) ?_
  refine RD.p (fun _ _ => trivial) rfl (Pu.move rfl) rfl rfl ?_
  refine RD.p (fun _ _ => trivial) rfl (Pu.nilCheck rfl) rfl rfl ?_
  refine RD.p (fun _ _ => trivial) rfl (Pu.fieldAddr fd75_3 rfl) rfl rfl ?_
  refine RD.q (fun _ _ => trivial) rfl (Qt.ldB 0 ty26 rfl rfl rfl) rfl rfl ?_
  refine RD.p (fun _ _ => trivial) rfl (Pu.move rfl) rfl rfl ?_
  obtain ⟨g3, H⟩ := gdE H
  refine RD.know (fun w s => s.row_fits (q := q1) (m := a0_c.k.length) (k := 2) rfl) fun hf4 => ?_
  refine RD.p (fun _ _ => trivial) rfl (Pu.sliceH sl26 rfl rfl (le_cap g3 hf4.2.1)) rfl rfl ?_
  refine RD.p (fun _ _ => trivial) rfl (Pu.move rfl) rfl rfl ?_
  refine RD.p (fun _ _ => trivial) rfl (Pu.nilCheck rfl) rfl rfl ?_
  refine RD.p (fun _ _ => trivial) rfl (Pu.fieldAddr fd75_4 rfl) rfl rfl ?_
  refine RD.q (fun _ _ => trivial) rfl (Qt.ldB 0 ty26 rfl rfl rfl) rfl rfl ?_
  refine RD.p (fun _ _ => trivial) rfl (Pu.move rfl) rfl rfl ?_
  obtain ⟨g5, H⟩ := gdE H
  refine RD.know (fun w s => s.row_fits (q := q2) (m := a0_c.v.length) (k := 3) rfl) fun hf6 => ?_
  refine RD.p (fun _ _ => trivial) rfl (Pu.sliceH sl26 rfl rfl (le_cap g5 hf6.2.1)) rfl rfl ?_
  obtain ⟨x7, hx7, H⟩ := bindE H
  refine RD.solid rfl (.inl rfl) rfl rfl (Sd.callN ent37 rfl (fun w s => throngref0_CopyNumbers_walk (a0_c.k.take a1_i.toNat) w ((Rd.take (Rd.ofRowN 2 rfl) (le_nat g3)) w s) hx7)) (fun _ => ClE.sat _ _) (fun _ _ _ => trivial) (fun _ _ _ s => s.drop1) fun q8 => ?_
  obtain ⟨x9, hx9, H⟩ := bindE H
  refine RD.solid rfl (.inl rfl) rfl rfl (Sd.callN ent37 rfl (fun w s => throngref0_CopyNumbers_walk (a0_c.v.take a1_i.toNat) w ((Rd.take (Rd.ofRowN 3 rfl) (le_nat g5)) w s) hx9)) (fun _ => ClE.sat _ _) (fun _ _ _ => trivial) (fun _ _ _ s => s.drop1) fun q10 => ?_
  refine RD.p (fun _ _ => trivial) rfl (Pu.assign rfl) rfl rfl ?_
  refine RD.p (fun _ _ => trivial) rfl (Pu.assign rfl) rfl rfl ?_
  refine RD.nil (hK1 _ _ (T.conseq (fr' := [(0, _), (1, _), (4, _), (5, _)]) ?_ ⟨rfl, rfl, rfl, rfl, trivial⟩ (fun _ s => s)))
  refine T.seq fun K2 hK2 => ?_
  refine T.region ?_
  refine RS.p (Pu.move rfl) rfl rfl ?_
  refine RS.p (Pu.move rfl) rfl rfl ?_
  refine RS.p (Pu.move rfl) rfl rfl ?_
  refine RS.p (Pu.nilCheck rfl) rfl rfl ?_
  refine RS.p (Pu.fieldAddr fd75_3 rfl) rfl rfl ?_
  refine RS.q (Qt.ldB 0 ty26 rfl rfl rfl) rfl rfl ?_
  refine RS.p (Pu.move rfl) rfl rfl ?_
  obtain ⟨g11, H⟩ := gdE H
  refine RS.p (Pu.addS rfl rfl g11) rfl rfl ?_
  obtain ⟨g12, H⟩ := gdE H
  refine RS.p (Pu.sliceL sl26 rfl rfl g12) rfl rfl ?_
  obtain ⟨g14, H⟩ := gdE H
  refine RS.solid (Sd.appR (α := Int) 4 (nilH_lt _) rfl sl26 zr3 rfl rfl rfl (Rd.drop (Rd.ofRowN 2 rfl) (le_nat g12) rfl) g14 (by decide)) rfl rfl fun q13 => ?_
  refine RS.p (Pu.nilCheck rfl) rfl rfl ?_
  refine RS.p (Pu.fieldAddr fd75_3 rfl) rfl rfl ?_
  refine RS.solid (Sd.stB (cs' := [_, _, _, _, _]) 0 ty26 rfl rfl rfl rfl rfl rfl rfl rfl) rfl rfl fun _ => ?_
  refine RS.nil (hK2 _ _ (T.conseq (fr' := [(0, _), (1, _), (5, _)]) ?_ ⟨rfl, rfl, rfl, trivial⟩ (fun _ s => s)))
  refine T.region ?_
  refine RS.p (Pu.move rfl) rfl rfl ?_
  refine RS.p (Pu.move rfl) rfl rfl ?_
  refine RS.p (Pu.move rfl) rfl rfl ?_
  refine RS.p (Pu.nilCheck rfl) rfl rfl ?_
  refine RS.p (Pu.fieldAddr fd75_4 rfl) rfl rfl ?_
  refine RS.q (Qt.ldB 0 ty26 rfl rfl rfl) rfl rfl ?_
  refine RS.p (Pu.move rfl) rfl rfl ?_
  obtain ⟨g15, H⟩ := gdE H
  refine RS.p (Pu.addS rfl rfl g15) rfl rfl ?_
  obtain ⟨g16, H⟩ := gdE H
  refine RS.p (Pu.sliceL sl26 rfl rfl g16) rfl rfl ?_
  obtain ⟨g18, H⟩ := gdE H
  refine RS.solid (Sd.appR (α := Int) 5 (nilH_lt _) rfl sl26 zr3 rfl rfl rfl (Rd.drop (Rd.ofRowN 3 rfl) (le_nat g16) rfl) g18 (by decide)) rfl rfl fun q17 => ?_
  refine RS.p (Pu.nilCheck rfl) rfl rfl ?_
  refine RS.p (Pu.fieldAddr fd75_4 rfl) rfl rfl ?_
  refine RS.solid (Sd.stB (cs' := [_, _, _, _, _]) 0 ty26 rfl rfl rfl rfl rfl rfl rfl rfl) rfl rfl fun _ => ?_
  obtain rfl := Option.some.inj H
  refine RS.nil (Cont.end0 rfl fun w' s => ?_)
  exact ⟨rfl, CRef_shut (x := (⟨a0_c.room, a0_c.hits, a0_c.misses, (x7 ++ (a0_c.k.drop (a1_i + 1).toNat)), (x9 ++ (a0_c.v.drop (a1_i + 1).toNat))⟩ : CRef)) ⟨q13, q17⟩ (s.pick [1, 0, 4, 5] (by decide) rfl)⟩
theorem throngref15_Cache_Drop_walk {w0 : World} {F : Ch} (g0 : Nat) (a0_c : CRef) (a1_key : Int) {r : Bool × CRef} (H : throngref15_Cache_Drop a0_c a1_key = some r) (w : World) (s : Sat w0 [CRef_ch g0 a0_c, F] w) : Calls Try.prog 50 #[.pointer (some ⟨g0, 0, none⟩), .int .i64 a1_key] w fun e w' => e = .returned (.bool r.1) ∧ Sat w0 [CRef_ch g0 r.2, F] w' := by
  unfold throngref15_Cache_Drop at H
  refine T.enter (args := [_, _]) (S := Sat w0 [CRef_ch g0 a0_c, F]) Try.func50 rfl rfl (s) ?_
  refine T.ex (S' := fun q : (Option Nat × Nat) × (Option Nat × Nat) => Sat w0 [blk g0 [.int .i64 a0_c.room, .int .i64 a0_c.hits, .int .i64 a0_c.misses, rowV q.1 a0_c.k.length, rowV q.2 a0_c.v.length] 75, F, row nilH 3 (rowV q.1 a0_c.k.length) a0_c.k, row nilH 3 (rowV q.2 a0_c.v.length) a0_c.v]) (fun w s => CRef_open 0 rfl s) ?_
  rintro ⟨q1, q2⟩
  show T _ _ _ _ (Sat w0 [blk g0 [.int .i64 a0_c.room, .int .i64 a0_c.hits, .int .i64 a0_c.misses, rowV q1 a0_c.k.length, rowV q2 a0_c.v.length] 75, F, row nilH 3 (rowV q1 a0_c.k.length) a0_c.k, row nilH 3 (rowV q2 a0_c.v.length) a0_c.v]) _
  refine T.seq fun K1 hK1 => ?_
  refine T.region ?_
  refine RS.p (Pu.assign rfl) rfl rfl ?_
  refine RS.nil (hK1 _ _ ?_)
  refine T.seq fun K2 hK2 => ?_
  refine T.region ?_
  refine RS.p (Pu.move rfl) rfl rfl ?_
  refine RS.p (Pu.nilCheck rfl) rfl rfl ?_
  refine RS.p (Pu.fieldAddr fd75_3 rfl) rfl rfl ?_
  refine RS.q (Qt.ldB 0 ty26 rfl rfl rfl) rfl rfl ?_
  refine RS.p (Pu.move rfl) rfl rfl ?_
  obtain ⟨x3, hx3, H⟩ := bindE H
  refine RS.q (Qt.call ent42 rfl fun w s => throngref0_In_walk a0_c.k a1_key w ((Rd.ofRowN 2 rfl) w s) hx3) rfl rfl ?_
  refine RS.p (Pu.assign rfl) rfl rfl ?_
  refine RS.nil (hK2 _ _ (T.conseq (fr' := [(0, _), (5, _)]) ?_ ⟨rfl, rfl, trivial⟩ (fun _ s => s)))
  refine T.seq fun K3 hK3 => ?_
  refine T.seq fun K4 hK4 => ?_
  refine T.region ?_
  refine RS.p (Pu.move rfl) rfl rfl ?_
  refine RS.p (Pu.bin rfl rfl rfl) rfl rfl ?_
  refine RS.nil (hK4 _ _ ?_)
  refine T.condP rfl (fun hc4 => ?_) (fun hc4 => ?_)
  · have H := ifT hc4 H
    refine T.region ?_
    refine RS.p (Pu.move rfl) rfl rfl ?_
    refine RS.p (Pu.move rfl) rfl rfl ?_
    refine RS.weakS (fun w s => CRef_shut (R := [F]) (g := g0) (x := a0_c) ⟨q1, q2⟩ (s.pick [1, 0, 2, 3] (by decide) rfl)) ?_
    obtain ⟨x5, hx5, H⟩ := bindE H
    refine RS.solid (Sd.callF0 0 ent67 rfl rfl (fun w s => throngref15_Cache_drop_walk g0 a0_c x3  hx5 w s)) rfl rfl fun _ => ?_
    refine RS.ex (S' := fun q : (Option Nat × Nat) × (Option Nat × Nat) => Sat w0 [blk g0 [.int .i64 x5.room, .int .i64 x5.hits, .int .i64 x5.misses, rowV q.1 x5.k.length, rowV q.2 x5.v.length] 75, F, row nilH 3 (rowV q.1 x5.k.length) x5.k, row nilH 3 (rowV q.2 x5.v.length) x5.v]) (fun w s => let ⟨q, s⟩ := CRef_open 0 rfl s; ⟨q, s⟩) ?_
    rintro ⟨q6, q7⟩
    show RS _ _ _ _ _ _ (Sat w0 [blk g0 [.int .i64 x5.room, .int .i64 x5.hits, .int .i64 x5.misses, rowV q6 x5.k.length, rowV q7 x5.v.length] 75, F, row nilH 3 (rowV q6 x5.k.length) x5.k, row nilH 3 (rowV q7 x5.v.length) x5.v])
    refine RS.nil (hK3 _ _ (T.conseq (fr' := [(5, _)]) ?_ ⟨rfl, trivial⟩ (fun _ s => s)))
    refine T.seq fun K5 hK5 => ?_
    refine T.region ?_
    refine RS.p (Pu.move rfl) rfl rfl ?_
    refine RS.p (Pu.bin rfl rfl rfl) rfl rfl ?_
    refine RS.p (Pu.assign rfl) rfl rfl ?_
    refine RS.nil (hK5 _ _ (T.conseq (fr' := [(4, _)]) ?_ ⟨rfl, trivial⟩ (fun _ s => s)))
    obtain rfl := Option.some.inj H
    refine T.retTo (by with_reducible ((repeat (first | apply RetTo.seq | apply RetTo.blk)); exact RetTo.refl _)) (Cont.ret1 rfl rfl fun w' s => ?_)
    exact ⟨rfl, CRef_shut (x := x5) ⟨q6, q7⟩ (s.pick [1, 0, 2, 3] (by decide) rfl)⟩
  · have H := ifF hc4 H
    refine T.skip (hK3 _ _ (T.conseq (fr' := [(5, _)]) ?_ ⟨rfl, trivial⟩ (fun _ s => s)))
    refine T.seq fun K6 hK6 => ?_
    refine T.region ?_
    refine RS.p (Pu.move rfl) rfl rfl ?_
    refine RS.p (Pu.bin rfl rfl rfl) rfl rfl ?_
    refine RS.p (Pu.assign rfl) rfl rfl ?_
    refine RS.nil (hK6 _ _ (T.conseq (fr' := [(4, _)]) ?_ ⟨rfl, trivial⟩ (fun _ s => s)))
    obtain rfl := Option.some.inj H
    refine T.retTo (by with_reducible ((repeat (first | apply RetTo.seq | apply RetTo.blk)); exact RetTo.refl _)) (Cont.ret1 rfl rfl fun w' s => ?_)
    exact ⟨rfl, CRef_shut (x := a0_c) ⟨q1, q2⟩ (s.pick [1, 0, 2, 3] (by decide) rfl)⟩
theorem throngref15_Cache_Put_walk {w0 : World} {F : Ch} (g0 : Nat) (a0_c : CRef) (a1_key : Int) (a2_val : Int) {r : CRef} (H : throngref15_Cache_Put a0_c a1_key a2_val = some r) (w : World) (s : Sat w0 [CRef_ch g0 a0_c, F] w) : Calls Try.prog 52 #[.pointer (some ⟨g0, 0, none⟩), .int .i64 a1_key, .int .i64 a2_val] w fun e w' => e = .returned (.tuple #[]) ∧ Sat w0 [CRef_ch g0 r, F] w' := by
  unfold throngref15_Cache_Put at H
  refine T.enter (args := [_, _, _]) (S := Sat w0 [CRef_ch g0 a0_c, F]) Try.func52 rfl rfl (s) ?_
  refine T.ex (S' := fun q : (Option Nat × Nat) × (Option Nat × Nat) => Sat w0 [blk g0 [.int .i64 a0_c.room, .int .i64 a0_c.hits, .int .i64 a0_c.misses, rowV q.1 a0_c.k.length, rowV q.2 a0_c.v.length] 75, F, row nilH 3 (rowV q.1 a0_c.k.length) a0_c.k, row nilH 3 (rowV q.2 a0_c.v.length) a0_c.v]) (fun w s => CRef_open 0 rfl s) ?_
  rintro ⟨q1, q2⟩
  show T _ _ _ _ (Sat w0 [blk g0 [.int .i64 a0_c.room, .int .i64 a0_c.hits, .int .i64 a0_c.misses, rowV q1 a0_c.k.length, rowV q2 a0_c.v.length] 75, F, row nilH 3 (rowV q1 a0_c.k.length) a0_c.k, row nilH 3 (rowV q2 a0_c.v.length) a0_c.v]) _
  refine T.seq fun K1 hK1 => ?_
  refine T.region ?_
  refine RS.p (Pu.move rfl) rfl rfl ?_
  refine RS.p (Pu.move rfl) rfl rfl ?_
  refine RS.weakS (fun w s => CRef_shut (R := [F]) (g := g0) (x := a0_c) ⟨q1, q2⟩ (s.pick [1, 0, 2, 3] (by decide) rfl)) ?_
  obtain ⟨x3, hx3, H⟩ := bindE H
  refine RS.solid (Sd.callF0 0 ent50 rfl rfl (fun w s => throngref15_Cache_Drop_walk g0 a0_c a1_key  hx3 w s)) rfl rfl fun _ => ?_
  refine RS.ex (S' := fun q : (Option Nat × Nat) × (Option Nat × Nat) => Sat w0 [blk g0 [.int .i64 x3.2.room, .int .i64 x3.2.hits, .int .i64 x3.2.misses, rowV q.1 x3.2.k.length, rowV q.2 x3.2.v.length] 75, F, row nilH 3 (rowV q.1 x3.2.k.length) x3.2.k, row nilH 3 (rowV q.2 x3.2.v.length) x3.2.v]) (fun w s => let ⟨q, s⟩ := CRef_open 0 rfl s; ⟨q, s⟩) ?_
  rintro ⟨q4, q5⟩
  show RS _ _ _ _ _ _ (Sat w0 [blk g0 [.int .i64 x3.2.room, .int .i64 x3.2.hits, .int .i64 x3.2.misses, rowV q4 x3.2.k.length, rowV q5 x3.2.v.length] 75, F, row nilH 3 (rowV q4 x3.2.k.length) x3.2.k, row nilH 3 (rowV q5 x3.2.v.length) x3.2.v])
  refine RS.nil (hK1 _ _ (T.conseq (fr' := [(0, _), (1, _), (2, _)]) ?_ ⟨rfl, rfl, rfl, trivial⟩ (fun _ s => s)))
  refine T.seq fun K2 hK2 => ?_
  refine T.region ?_
  refine RS.p (Pu.move rfl) rfl rfl ?_
  refine RS.p (Pu.move rfl) rfl rfl ?_
  refine RS.solid (Sd.litS (cs := [_]) sl26 zr3 rfl rfl rfl rfl rfl) rfl rfl fun b6 => ?_
  refine RS.weakS (fun w s => s.litRow (α := Int) (n := 1) 4 [a1_key] rfl (by decide) rfl ⟨[_], _, rfl, rfl, rfl⟩) ?_
  refine RS.p (Pu.move rfl) rfl rfl ?_
  refine RS.p (Pu.nilCheck rfl) rfl rfl ?_
  refine RS.p (Pu.fieldAddr fd75_3 rfl) rfl rfl ?_
  refine RS.q (Qt.ldB 0 ty26 rfl rfl rfl) rfl rfl ?_
  obtain ⟨g8, H⟩ := gdE H
  refine RS.solid (Sd.appR (α := Int) 4 (nilH_lt _) rfl sl26 zr3 rfl rfl rfl (Rd.ofRowN 2 rfl) g8 (by decide)) rfl rfl fun q7 => ?_
  refine RS.p (Pu.nilCheck rfl) rfl rfl ?_
  refine RS.p (Pu.fieldAddr fd75_3 rfl) rfl rfl ?_
  refine RS.solid (Sd.stB (cs' := [_, _, _, _, _]) 0 ty26 rfl rfl rfl rfl rfl rfl rfl rfl) rfl rfl fun _ => ?_
  refine RS.nil (hK2 _ _ (T.conseq (fr' := [(0, _), (2, _)]) ?_ ⟨rfl, rfl, trivial⟩ (fun _ s => s)))
  refine T.seq fun K3 hK3 => ?_
  refine T.region ?_
  refine RS.p (Pu.move rfl) rfl rfl ?_
  refine RS.p (Pu.move rfl) rfl rfl ?_
  refine RS.solid (Sd.litS (cs := [_]) sl26 zr3 rfl rfl rfl rfl rfl) rfl rfl fun b9 => ?_
  refine RS.weakS (fun w s => s.litRow (α := Int) (n := 1) 5 [a2_val] rfl (by decide) rfl ⟨[_], _, rfl, rfl, rfl⟩) ?_
  refine RS.p (Pu.move rfl) rfl rfl ?_
  refine RS.p (Pu.nilCheck rfl) rfl rfl ?_
  refine RS.p (Pu.fieldAddr fd75_4 rfl) rfl rfl ?_
  refine RS.q (Qt.ldB 0 ty26 rfl rfl rfl) rfl rfl ?_
  obtain ⟨g11, H⟩ := gdE H
  refine RS.solid (Sd.appR (α := Int) 5 (nilH_lt _) rfl sl26 zr3 rfl rfl rfl (Rd.ofRowN 3 rfl) g11 (by decide)) rfl rfl fun q10 => ?_
  refine RS.p (Pu.nilCheck rfl) rfl rfl ?_
  refine RS.p (Pu.fieldAddr fd75_4 rfl) rfl rfl ?_
  refine RS.solid (Sd.stB (cs' := [_, _, _, _, _]) 0 ty26 rfl rfl rfl rfl rfl rfl rfl rfl) rfl rfl fun _ => ?_
  refine RS.nil (hK3 _ _ (T.conseq (fr' := [(0, _)]) ?_ ⟨rfl, trivial⟩ (fun _ s => s)))
  refine T.seq fun K4 hK4 => ?_
  refine T.drawn (fun _ => True) [(0, .pu), (1, .pu), (2, .pu), (3, .rd), (4, .pu), (5, .pu), (6, .pu), (7, .pu), (8, .rd), (9, .pu)] mixed (ClE.sat _ _) (by kernel_rfl) ?_
  refine RD.p (fun _ _ => trivial) rfl (Pu.move rfl) rfl rfl ?_
  refine RD.p (fun _ _ => trivial) rfl (Pu.nilCheck rfl) rfl rfl ?_
  refine RD.p (fun _ _ => trivial) rfl (Pu.fieldAddr fd75_3 rfl) rfl rfl ?_
  refine RD.q (fun _ _ => trivial) rfl (Qt.ldB 0 ty26 rfl rfl rfl) rfl rfl ?_
  refine RD.p (fun _ _ => trivial) rfl (Pu.lenSl sl26 rfl) rfl rfl ?_
  refine RD.p (fun _ _ => trivial) rfl (Pu.move rfl) rfl rfl ?_
  refine RD.p (fun _ _ => trivial) rfl (Pu.nilCheck rfl) rfl rfl ?_
  refine RD.p (fun _ _ => trivial) rfl (Pu.fieldAddr fd75_0 rfl) rfl rfl ?_
  refine RD.q (fun _ _ => trivial) rfl (Qt.ldB 0 ty3 rfl rfl rfl) rfl rfl ?_
  refine RD.p (fun _ _ => trivial) rfl (Pu.bin rfl rfl rfl) rfl rfl ?_
  refine RD.nil (hK4 _ _ ?_)
  refine T.condP rfl (fun hc12 => ?_) (fun hc12 => ?_)
  · have H := ifT hc12 H
    refine T.conseq (fr' := [(0, _)]) ?_ ⟨rfl, trivial⟩ (fun _ s => s)
    refine T.region ?_
    refine RS.p (Pu.move rfl) rfl rfl ?_
    refine RS.p (Pu.move rfl) rfl rfl ?_
    refine RS.p (Pu.nilCheck rfl) rfl rfl ?_
    refine RS.p (Pu.fieldAddr fd75_3 rfl) rfl rfl ?_
    refine RS.q (Qt.ldB 0 ty26 rfl rfl rfl) rfl rfl ?_
    refine RS.p (Pu.lenSl sl26 rfl) rfl rfl ?_
    obtain ⟨g13, H⟩ := gdE H
    refine RS.p (Pu.subS rfl rfl g13) rfl rfl ?_
    refine RS.weakS (fun w s => CRef_shut (R := [F, row nilH 3 (rowV q4 x3.2.k.length) x3.2.k, row nilH 3 (rowV q5 x3.2.v.length) x3.2.v]) (g := g0) (x := (⟨x3.2.room, x3.2.hits, x3.2.misses, ([a1_key] ++ x3.2.k), ([a2_val] ++ x3.2.v)⟩ : CRef)) ⟨q7, q10⟩ (s.pick [1, 2, 3, 0, 4, 5] (by decide) rfl)) ?_
    obtain ⟨x14, hx14, H⟩ := bindE H
    refine RS.solid (Sd.callF0 0 ent67 rfl rfl (fun w s => throngref15_Cache_drop_walk g0 (⟨x3.2.room, x3.2.hits, x3.2.misses, ([a1_key] ++ x3.2.k), ([a2_val] ++ x3.2.v)⟩ : CRef) ((([a1_key] ++ x3.2.k).length : Int) - 1)  hx14 w s)) rfl rfl fun _ => ?_
    refine RS.ex (S' := fun q : (Option Nat × Nat) × (Option Nat × Nat) => Sat w0 [blk g0 [.int .i64 x14.room, .int .i64 x14.hits, .int .i64 x14.misses, rowV q.1 x14.k.length, rowV q.2 x14.v.length] 75, F, row nilH 3 (rowV q4 x3.2.k.length) x3.2.k, row nilH 3 (rowV q5 x3.2.v.length) x3.2.v, row nilH 3 (rowV q.1 x14.k.length) x14.k, row nilH 3 (rowV q.2 x14.v.length) x14.v]) (fun w s => let ⟨q, s⟩ := CRef_open 0 rfl s; ⟨q, s⟩) ?_
    rintro ⟨q15, q16⟩
    show RS _ _ _ _ _ _ (Sat w0 [blk g0 [.int .i64 x14.room, .int .i64 x14.hits, .int .i64 x14.misses, rowV q15 x14.k.length, rowV q16 x14.v.length] 75, F, row nilH 3 (rowV q4 x3.2.k.length) x3.2.k, row nilH 3 (rowV q5 x3.2.v.length) x3.2.v, row nilH 3 (rowV q15 x14.k.length) x14.k, row nilH 3 (rowV q16 x14.v.length) x14.v])
    obtain rfl := Option.some.inj H
    refine RS.nil (Cont.end0 rfl fun w' s => ?_)
    exact ⟨rfl, CRef_shut (x := x14) ⟨q15, q16⟩ (s.pick [1, 0, 4, 5] (by decide) rfl)⟩
  · have H := ifF hc12 H
    obtain rfl := Option.some.inj H
    refine T.skip (Cont.end0 rfl fun w' s => ?_)
    exact ⟨rfl, CRef_shut (x := (⟨x3.2.room, x3.2.hits, x3.2.misses, ([a1_key] ++ x3.2.k), ([a2_val] ++ x3.2.v)⟩ : CRef)) ⟨q7, q10⟩ (s.pick [1, 0, 4, 5] (by decide) rfl)⟩
theorem throngref15_Cache_Get_walk {w0 : World} {F : Ch} (g0 : Nat) (a0_c : CRef) (a1_key : Int) {r : Int × Bool × CRef} (H : throngref15_Cache_Get a0_c a1_key = some r) (w : World) (s : Sat w0 [CRef_ch g0 a0_c, F] w) : Calls Try.prog 48 #[.pointer (some ⟨g0, 0, none⟩), .int .i64 a1_key] w fun e w' => e = .returned (.tuple #[.int .i64 r.1, .bool r.2.1]) ∧ Sat w0 [CRef_ch g0 r.2.2, F] w' := by
  unfold throngref15_Cache_Get at H
  refine T.enter (args := [_, _]) (S := Sat w0 [CRef_ch g0 a0_c, F]) Try.func48 rfl rfl (s) ?_
  refine T.ex (S' := fun q : (Option Nat × Nat) × (Option Nat × Nat) => Sat w0 [blk g0 [.int .i64 a0_c.room, .int .i64 a0_c.hits, .int .i64 a0_c.misses, rowV q.1 a0_c.k.length, rowV q.2 a0_c.v.length] 75, F, row nilH 3 (rowV q.1 a0_c.k.length) a0_c.k, row nilH 3 (rowV q.2 a0_c.v.length) a0_c.v]) (fun w s => CRef_open 0 rfl s) ?_
  rintro ⟨q1, q2⟩
  show T _ _ _ _ (Sat w0 [blk g0 [.int .i64 a0_c.room, .int .i64 a0_c.hits, .int .i64 a0_c.misses, rowV q1 a0_c.k.length, rowV q2 a0_c.v.length] 75, F, row nilH 3 (rowV q1 a0_c.k.length) a0_c.k, row nilH 3 (rowV q2 a0_c.v.length) a0_c.v]) _
  refine T.seq fun K1 hK1 => ?_
  refine T.region ?_
  refine RS.p (Pu.assign rfl) rfl rfl ?_
  refine RS.p (Pu.assign rfl) rfl rfl ?_
  refine RS.nil (hK1 _ _ ?_)
  refine T.seq fun K2 hK2 => ?_
  refine T.region ?_
  refine RS.p (Pu.move rfl) rfl rfl ?_
  refine RS.p (Pu.nilCheck rfl) rfl rfl ?_
  refine RS.p (Pu.fieldAddr fd75_3 rfl) rfl rfl ?_
  refine RS.q (Qt.ldB 0 ty26 rfl rfl rfl) rfl rfl ?_
  refine RS.p (Pu.move rfl) rfl rfl ?_
  obtain ⟨x3, hx3, H⟩ := bindE H
  refine RS.q (Qt.call ent42 rfl fun w s => throngref0_In_walk a0_c.k a1_key w ((Rd.ofRowN 2 rfl) w s) hx3) rfl rfl ?_
  refine RS.p (Pu.assign rfl) rfl rfl ?_
  refine RS.nil (hK2 _ _ (T.conseq (fr' := [(0, _), (1, _), (6, _)]) ?_ ⟨rfl, rfl, rfl, trivial⟩ (fun _ s => s)))
  refine T.seq fun K3 hK3 => ?_
  refine T.seq fun K4 hK4 => ?_
  refine T.region ?_
  refine RS.p (Pu.move rfl) rfl rfl ?_
  refine RS.p (Pu.bin rfl rfl rfl) rfl rfl ?_
  refine RS.nil (hK4 _ _ ?_)
  refine T.condP rfl (fun hc4 => ?_) (fun hc4 => ?_)
  · have H := ifT hc4 H
    refine T.conseq (fr' := [(0, _)]) ?_ ⟨rfl, trivial⟩ (fun _ s => s)
    refine T.seq fun K5 hK5 => ?_
    refine T.region ?_
    refine RS.p (Pu.move rfl) rfl rfl ?_
    refine RS.p (Pu.nilCheck rfl) rfl rfl ?_
    refine RS.p (Pu.fieldAddr fd75_2 rfl) rfl rfl ?_
    refine RS.q (Qt.ldB 0 ty3 rfl rfl rfl) rfl rfl ?_
    obtain ⟨g5, H⟩ := gdE H
    refine RS.p (Pu.addS rfl rfl g5) rfl rfl ?_
    refine RS.p (Pu.nilCheck rfl) rfl rfl ?_
    refine RS.p (Pu.fieldAddr fd75_2 rfl) rfl rfl ?_
    refine RS.solid (Sd.stB (cs' := [_, _, _, _, _]) 0 ty3 rfl rfl rfl rfl rfl rfl rfl rfl) rfl rfl fun _ => ?_
    refine RS.nil (hK5 _ _ (T.conseq (fr' := []) ?_ trivial (fun _ s => s)))
    refine T.seq fun K6 hK6 => ?_
    refine T.region ?_
    refine RS.p (Pu.assign rfl) rfl rfl ?_
    refine RS.p (Pu.assign rfl) rfl rfl ?_
    refine RS.nil (hK6 _ _ ?_)
    obtain rfl := Option.some.inj H
    refine T.retTo (by with_reducible ((repeat (first | apply RetTo.seq | apply RetTo.blk)); exact RetTo.refl _)) (Cont.ret2 rfl rfl rfl fun w' s => ?_)
    exact ⟨rfl, CRef_shut (x := (⟨a0_c.room, a0_c.hits, (a0_c.misses + 1), a0_c.k, a0_c.v⟩ : CRef)) ⟨q1, q2⟩ (s.pick [1, 0, 2, 3] (by decide) rfl)⟩
  · have H := ifF hc4 H
    refine T.skip (hK3 _ _ ?_)
    refine T.seq fun K7 hK7 => ?_
    refine T.region ?_
    refine RS.p (Pu.move rfl) rfl rfl ?_
    refine RS.p (Pu.nilCheck rfl) rfl rfl ?_
    refine RS.p (Pu.fieldAddr fd75_1 rfl) rfl rfl ?_
    refine RS.q (Qt.ldB 0 ty3 rfl rfl rfl) rfl rfl ?_
    obtain ⟨g6, H⟩ := gdE H
    refine RS.p (Pu.addS rfl rfl g6) rfl rfl ?_
    refine RS.p (Pu.nilCheck rfl) rfl rfl ?_
    refine RS.p (Pu.fieldAddr fd75_1 rfl) rfl rfl ?_
    refine RS.solid (Sd.stB (cs' := [_, _, _, _, _]) 0 ty3 rfl rfl rfl rfl rfl rfl rfl rfl) rfl rfl fun _ => ?_
    refine RS.nil (hK7 _ _ (T.conseq (fr' := [(0, _), (1, _), (6, _)]) ?_ ⟨rfl, rfl, rfl, trivial⟩ (fun _ s => s)))
    refine T.seq fun K8 hK8 => ?_
    refine T.region ?_
    refine RS.p (Pu.move rfl) rfl rfl ?_
    refine RS.p (Pu.nilCheck rfl) rfl rfl ?_
    refine RS.p (Pu.fieldAddr fd75_4 rfl) rfl rfl ?_
    refine RS.q (Qt.ldB 0 ty26 rfl rfl rfl) rfl rfl ?_
    refine RS.p (Pu.move rfl) rfl rfl ?_
    obtain ⟨g7, H⟩ := gdE H
    refine RS.know (p := ∃ g cap, q2 = (some g, cap)) (fun w s => s.row_some (k := 3) rfl (pos_of g7)) ?_
    rintro ⟨gg8, cc9, rfl⟩
    refine RS.p (Pu.indexSl sl26 rfl rfl g7) rfl rfl ?_
    refine RS.q (Qt.ld0 (α := Int) (Rd.ofRowN 3 rfl) ty3 rfl rfl g7 (by rintro _ _ rfl; rfl)) rfl rfl ?_
    refine RS.p (Pu.assign rfl) rfl rfl ?_
    refine RS.nil (hK8 _ _ (T.conseq (fr' := [(0, _), (1, _), (7, _)]) ?_ ⟨rfl, rfl, rfl, trivial⟩ (fun _ s => s)))
    refine T.seq fun K9 hK9 => ?_
    refine T.region ?_
    refine RS.p (Pu.move rfl) rfl rfl ?_
    refine RS.p (Pu.move rfl) rfl rfl ?_
    refine RS.p (Pu.move rfl) rfl rfl ?_
    refine RS.weakS (fun w s => CRef_shut (R := [F]) (g := g0) (x := (⟨a0_c.room, (a0_c.hits + 1), a0_c.misses, a0_c.k, a0_c.v⟩ : CRef)) ⟨q1, (some gg8, cc9)⟩ (s.pick [1, 0, 2, 3] (by decide) rfl)) ?_
    obtain ⟨x10, hx10, H⟩ := bindE H
    refine RS.solid (Sd.callF0 0 ent52 rfl rfl (fun w s => throngref15_Cache_Put_walk g0 (⟨a0_c.room, (a0_c.hits + 1), a0_c.misses, a0_c.k, a0_c.v⟩ : CRef) a1_key (gi a0_c.v x3)  hx10 w s)) rfl rfl fun _ => ?_
    refine RS.ex (S' := fun q : (Option Nat × Nat) × (Option Nat × Nat) => Sat w0 [blk g0 [.int .i64 x10.room, .int .i64 x10.hits, .int .i64 x10.misses, rowV q.1 x10.k.length, rowV q.2 x10.v.length] 75, F, row nilH 3 (rowV q.1 x10.k.length) x10.k, row nilH 3 (rowV q.2 x10.v.length) x10.v]) (fun w s => let ⟨q, s⟩ := CRef_open 0 rfl s; ⟨q, s⟩) ?_
    rintro ⟨q11, q12⟩
    show RS _ _ _ _ _ _ (Sat w0 [blk g0 [.int .i64 x10.room, .int .i64 x10.hits, .int .i64 x10.misses, rowV q11 x10.k.length, rowV q12 x10.v.length] 75, F, row nilH 3 (rowV q11 x10.k.length) x10.k, row nilH 3 (rowV q12 x10.v.length) x10.v])
    refine RS.nil (hK9 _ _ (T.conseq (fr' := [(7, _)]) ?_ ⟨rfl, trivial⟩ (fun _ s => s)))
    refine T.seq fun K10 hK10 => ?_
    refine T.region ?_
    refine RS.p (Pu.move rfl) rfl rfl ?_
    refine RS.p (Pu.assign rfl) rfl rfl ?_
    refine RS.p (Pu.assign rfl) rfl rfl ?_
    refine RS.nil (hK10 _ _ ?_)
    obtain rfl := Option.some.inj H
    refine T.retTo (by with_reducible ((repeat (first | apply RetTo.seq | apply RetTo.blk)); exact RetTo.refl _)) (Cont.ret2 rfl rfl rfl fun w' s => ?_)
    exact ⟨rfl, CRef_shut (x := x10) ⟨q11, q12⟩ (s.pick [1, 0, 2, 3] (by decide) rfl)⟩
theorem thronglaw15_num_walk (a0_e : Int) (w : World) {r : Int} (H : thronglaw15_num a0_e = some r) : Calls Try.prog 41 #[.int .i64 a0_e] w fun e w' => e = .returned (.int .i64 r) ∧ Ext w w' := by
  unfold thronglaw15_num at H
  refine T.enter (args := [_]) (S := Sat w []) Try.func41 rfl rfl (Sat.start w) ?_
  refine T.seq fun K1 hK1 => ?_
  refine T.region ?_
  refine RS.p (Pu.assign rfl) rfl rfl ?_
  refine RS.nil (hK1 _ _ ?_)
  refine T.seq fun K2 hK2 => ?_
  refine T.region ?_
  refine RS.p (Pu.move rfl) rfl rfl ?_
  refine RS.p (Pu.assign rfl) rfl rfl ?_
  refine RS.nil (hK2 _ _ ?_)
  obtain rfl := Option.some.inj H
  refine T.retTo (by with_reducible ((repeat (first | apply RetTo.seq | apply RetTo.blk)); exact RetTo.refl _)) (Cont.ret1 rfl rfl fun w' s => ?_)
  exact ⟨rfl, s.ext⟩
theorem thronglaw15_wakes_walk (w : World) {r : Bool} (H : thronglaw15_wakes = some r) : Calls Try.prog 46 #[] w fun e w' => e = .returned (.bool r) ∧ Ext w w' := by
  unfold thronglaw15_wakes at H
  refine T.enter (args := []) (S := Sat w []) Try.func46 rfl rfl (Sat.start w) ?_
  refine T.seq fun K1 hK1 => ?_
  refine T.region ?_
  refine RS.p (Pu.assign rfl) rfl rfl ?_
  refine RS.nil (hK1 _ _ ?_)
  refine T.seq fun K2 hK2 => ?_
  refine T.region ?_
  obtain ⟨x1, hx1, H⟩ := bindE H
  obtain ⟨o2, o3⟩ := x1
  dsimp only at H
  refine RS.solid (Sd.callN ent40 rfl (fun w s => cache_New_walk 1 w  hx1)) rfl rfl fun g4 => ?_
  refine RS.p (Pu.move rfl) rfl rfl ?_
  refine RS.p (Pu.extract rfl rfl) rfl rfl ?_
  refine RS.p (Pu.extract rfl rfl) rfl rfl ?_
  refine RS.p (Pu.assign rfl) rfl rfl ?_
  refine RS.p (Pu.assign rfl) rfl rfl ?_
  refine RS.nil (hK2 _ _ (T.conseq (fr' := [(1, _), (2, _)]) ?_ ⟨rfl, rfl, trivial⟩ (fun _ s => s)))
  refine T.seq fun K3 hK3 => ?_
  refine T.seq fun K4 hK4 => ?_
  refine T.region ?_
  refine RS.p (Pu.move rfl) rfl rfl ?_
  obtain ⟨x5, hx5, H⟩ := bindE H
  refine RS.q (Qt.call ent41 rfl fun w s => thronglaw15_num_walk o3 w  hx5) rfl rfl ?_
  refine RS.p (Pu.bin rfl rfl rfl) rfl rfl ?_
  refine RS.p (Pu.move rfl) rfl rfl ?_
  refine RS.joinV 3 17 (.bool (decide ((¬ x5 = 0) ∨ (o2.isNone = true)))) [(1, _)] ⟨rfl, trivial⟩ ?_ ?_
  · refine RS.nil (hK4 _ _ ?_)
    refine T.condP rfl (fun hc8 => ?_) (fun hc8 => ?_)
    · have H := ifT hc8 H
      refine T.seq fun K5 hK5 => ?_
      refine T.region ?_
      refine RS.p (Pu.assign rfl) rfl rfl ?_
      refine RS.nil (hK5 _ _ ?_)
      obtain rfl := Option.some.inj H
      refine T.retTo (by with_reducible ((repeat (first | apply RetTo.seq | apply RetTo.blk)); exact RetTo.refl _)) (Cont.ret1 rfl rfl fun w' s => ?_)
      exact ⟨rfl, s.ext⟩
    · have H := ifF hc8 H
      obtain ⟨z9, hz9, HZz9⟩ := bindE H
      subst hz9
      have H := HZz9
      refine T.weakS (fun w s => s.optSome (C := Cach_ch) 0 rfl) ?_
      refine T.skip (hK3 _ _ ?_)
      refine T.seq fun K6 hK6 => ?_
      refine T.region ?_
      refine RS.p (Pu.move rfl) rfl rfl ?_
      obtain ⟨x10, hx10, H⟩ := bindE H
      refine RS.solid (Sd.callF0 0 ent43 rfl rfl (fun w s => cache_Cache_Put_walk g4 z9 1 5  hx10 w s)) rfl rfl fun _ => ?_
      refine RS.nil (hK6 _ _ (T.conseq (fr' := [(1, _)]) ?_ ⟨rfl, trivial⟩ (fun _ s => s)))
      refine T.seq fun K7 hK7 => ?_
      refine T.region ?_
      refine RS.p (Pu.move rfl) rfl rfl ?_
      obtain ⟨x11, hx11, H⟩ := bindE H
      refine RS.solid (Sd.callF0 0 ent43 rfl rfl (fun w s => cache_Cache_Put_walk g4 x10 2 6  hx11 w s)) rfl rfl fun _ => ?_
      refine RS.nil (hK7 _ _ ?_)
      refine T.seq fun K8 hK8 => ?_
      refine T.region ?_
      refine RS.p (Pu.move rfl) rfl rfl ?_
      obtain ⟨x12, hx12, H⟩ := bindE H
      refine RS.solid (Sd.callF0 0 ent45 rfl rfl (fun w s => cache_Cache_Get_walk g4 x11 1  hx12 w s)) rfl rfl fun _ => ?_
      refine RS.p (Pu.move rfl) rfl rfl ?_
      refine RS.p (Pu.extract rfl rfl) rfl rfl ?_
      refine RS.p (Pu.extract rfl rfl) rfl rfl ?_
      refine RS.p (Pu.assign rfl) rfl rfl ?_
      refine RS.p (Pu.assign rfl) rfl rfl ?_
      refine RS.nil (hK8 _ _ (T.conseq (fr' := [(1, _), (4, _)]) ?_ ⟨rfl, rfl, trivial⟩ (fun _ s => s)))
      refine T.seq fun K9 hK9 => ?_
      refine T.region ?_
      refine RS.p (Pu.move rfl) rfl rfl ?_
      obtain ⟨x13, hx13, H⟩ := bindE H
      refine RS.solid (Sd.callF0 0 ent45 rfl rfl (fun w s => cache_Cache_Get_walk g4 x12.2.2 2  hx13 w s)) rfl rfl fun _ => ?_
      refine RS.p (Pu.move rfl) rfl rfl ?_
      refine RS.p (Pu.extract rfl rfl) rfl rfl ?_
      refine RS.p (Pu.extract rfl rfl) rfl rfl ?_
      refine RS.p (Pu.assign rfl) rfl rfl ?_
      refine RS.p (Pu.assign rfl) rfl rfl ?_
      refine RS.nil (hK9 _ _ (T.conseq (fr' := [(1, _), (4, _), (5, _), (6, _)]) ?_ ⟨rfl, rfl, rfl, rfl, trivial⟩ (fun _ s => s)))
      refine T.seq fun K10 hK10 => ?_
      refine T.region ?_
      refine RS.p (Pu.move rfl) rfl rfl ?_
      refine RS.p (Pu.not rfl) rfl rfl ?_
      refine RS.p (Pu.move rfl) rfl rfl ?_
      refine RS.joinV 2 36 (.bool (decide (((!x12.2.1) = true) ∧ (x13.2.1 = true)))) [(1, _), (5, _)] ⟨rfl, rfl, trivial⟩ ?_ ?_
      · refine RS.p (Pu.move rfl) rfl rfl ?_
        refine RS.joinV 3 40 (.bool (decide ((((!x12.2.1) = true) ∧ (x13.2.1 = true)) ∧ (x13.1 = 6)))) [(1, _)] ⟨rfl, trivial⟩ ?_ ?_
        · refine RS.p (Pu.move rfl) rfl rfl ?_
          refine RS.joinB H 4 45 (fun b20 => .bool b20) [(1, _)] ⟨rfl, trivial⟩ ?_ ?_
          · intro b20 H
            refine RS.p (Pu.move rfl) rfl rfl ?_
            refine RS.joinB H 4 50 (fun b23 => .bool b23) [] trivial ?_ ?_
            · intro b23 H
              refine RS.p (Pu.assign rfl) rfl rfl ?_
              refine RS.nil (hK10 _ _ ?_)
              obtain rfl := Option.some.inj H
              refine T.retTo (by with_reducible ((repeat (first | apply RetTo.seq | apply RetTo.blk)); exact RetTo.refl _)) (Cont.ret1 rfl rfl fun w' s => ?_)
              exact ⟨rfl, s.ext⟩
            · intro z24 H hJ22
              refine RS.split 46 rfl (fun hc21 => ?_) (fun hc21 => ?_)
              · have H := ifT hc21 H
                refine RS.p (Pu.move rfl) rfl rfl ?_
                obtain ⟨x25, hx25, H⟩ := bindE H
                refine RS.solid (Sd.callF0 0 ent54 rfl rfl (fun w s => cache_Cache_Misses_walk g4 x13.2.2  hx25 w s)) rfl rfl fun _ => ?_
                refine RS.p (Pu.bin rfl rfl rfl) rfl rfl ?_
                refine RS.p (Pu.pickT rfl rfl) rfl rfl ?_
                obtain rfl := Option.some.inj H
                exact hJ22 _ _ ⟨rfl, trivial⟩ (fun w s => s)
              · have H := ifB hc21 H
                refine RS.no rfl rfl ?_
                refine RS.no rfl rfl ?_
                refine RS.no rfl rfl ?_
                refine RS.p (Pu.pickF rfl rfl) rfl rfl ?_
                obtain rfl := Option.some.inj H
                exact hJ22 _ _ ⟨rfl, trivial⟩ (fun w s => s)
          · intro z26 H hJ19
            refine RS.splitP 41 rfl (fun hc18 => ?_) (fun hc18 => ?_)
            · have H := ifT hc18 H
              refine RS.p (Pu.move rfl) rfl rfl ?_
              obtain ⟨x27, hx27, H⟩ := bindE H
              refine RS.solid (Sd.callF0 0 ent53 rfl rfl (fun w s => cache_Cache_Hits_walk g4 x13.2.2  hx27 w s)) rfl rfl fun _ => ?_
              refine RS.p (Pu.bin rfl rfl rfl) rfl rfl ?_
              refine RS.p (Pu.pickT rfl rfl) rfl rfl ?_
              obtain rfl := Option.some.inj H
              exact hJ19 _ _ ⟨rfl, rfl, trivial⟩ (fun w s => s)
            · have H := ifF hc18 H
              refine RS.no rfl rfl ?_
              refine RS.no rfl rfl ?_
              refine RS.no rfl rfl ?_
              refine RS.p (Pu.pickF rfl rfl) rfl rfl ?_
              obtain rfl := Option.some.inj H
              exact hJ19 _ _ ⟨rfl, rfl, trivial⟩ (fun w s => s)
        · intro hJ17
          refine RS.splitP 37 rfl (fun hc16 => ?_) (fun hc16 => ?_)
          · refine RS.p (Pu.move rfl) rfl rfl ?_
            refine RS.p (Pu.bin rfl rfl rfl) rfl rfl ?_
            refine RS.p (Pu.pickT rfl rfl) rfl rfl ?_
            exact hJ17 _ _ ⟨dAndT hc16, rfl, trivial⟩ (fun w s => s)
          · refine RS.no rfl rfl ?_
            refine RS.no rfl rfl ?_
            refine RS.p (Pu.pickF rfl rfl) rfl rfl ?_
            exact hJ17 _ _ ⟨dAndF hc16, rfl, trivial⟩ (fun w s => s)
      · intro hJ15
        refine RS.split 34 rfl (fun hc14 => ?_) (fun hc14 => ?_)
        · refine RS.p (Pu.move rfl) rfl rfl ?_
          refine RS.p (Pu.pickT rfl rfl) rfl rfl ?_
          exact hJ15 _ _ ⟨dAndTB hc14, rfl, rfl, trivial⟩ (fun w s => s)
        · refine RS.no rfl rfl ?_
          refine RS.p (Pu.pickF rfl rfl) rfl rfl ?_
          exact hJ15 _ _ ⟨dAndF (bne_of hc14), rfl, rfl, trivial⟩ (fun w s => s)
  · intro hJ7
    refine RS.splitP 14 rfl (fun hc6 => ?_) (fun hc6 => ?_)
    · refine RS.no rfl rfl ?_
      refine RS.no rfl rfl ?_
      refine RS.p (Pu.pickT rfl rfl) rfl rfl ?_
      exact hJ7 _ _ ⟨dOrT hc6, rfl, trivial⟩ (fun w s => s)
    · refine RS.p (Pu.move rfl) rfl rfl ?_
      refine RS.p (Pu.eqNilO ul63 rfl) rfl rfl ?_
      refine RS.p (Pu.pickF rfl rfl) rfl rfl ?_
      exact hJ7 _ _ ⟨dOrFB hc6, rfl, trivial⟩ (fun w s => s)
end Go.Proofs.Ytacpdjccbadomaa
