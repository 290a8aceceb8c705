/-
  Walk of PortalWalls.
-/
import Derived.Test.YtddicdmleeaihaaRows
import Derived.Test.YtddicdmleeaihaaPQH
import Derived.Test.YtddicdmleeaihaaPQG2
set_option linter.unusedVariables false
set_option linter.unusedSimpArgs false
set_option maxRecDepth 20000
set_option maxHeartbeats 4000000
namespace Go.Proofs.Ytddicdmleeaihaa
open Go.Vg
open Enc (R)
open Sp
theorem ent16 : Ent Try.prog 16 := ⟨_, _, Try.func16, by kernel_rfl, rfl⟩
theorem fd25_3 : fdOff Try.prog 25 3 = some 3 := by kernel_rfl
theorem fd40_2 : fdOff Try.prog 40 2 = some 2 := by kernel_rfl
theorem ty23 : tySz Try.prog 23 = some (1, false) := by kernel_rfl
theorem thronglaw11_PortalWalls_walk (a0_p : Ask) (w : World) {v0 v1 v2 : Value} (h0 : R (hpOf w) a0_p.Free [v0]) (h1 : R (hpOf w) a0_p.Ts [v1]) (h2 : R (hpOf w) a0_p.Parts [v2]) {r : Bool} (H : thronglaw11_PortalWalls a0_p = some r) : Calls Try.prog 4 #[.agg #[.int .i64 a0_p.W, .int .i64 a0_p.H, v0, v1, v2]] w fun e w' => e = .returned (.bool r) ∧ Ext w w' := by
 have hm0 := R_max h0
 obtain ⟨p0, c0, rfl⟩ := R_form h0
 have hm1 := R_max h1
 obtain ⟨p1, c1, rfl⟩ := R_form h1
 have hm2 := R_max h2
 obtain ⟨p2, c2, rfl⟩ := R_form h2
 unfold thronglaw11_PortalWalls at H
 refine T.enter (args := [_]) (S := Sat w []) Try.func4 rfl rfl (Sat.start w) ?_
 refine T.seq fun K1 hK1 => ?_
 refine T.region ?_
 refine RS.solid (Sd.box (cs := [_, _, _, _, _]) rfl rfl) rfl rfl fun b1 => ?_
 refine RS.p (Pu.assign rfl) rfl rfl ?_
 refine RS.nil (hK1 _ _ ?_)
 refine T.seq fun K2 hK2 => ?_
 refine T.seq fun K3 hK3 => ?_
 refine T.region ?_
 refine RS.p (Pu.assign rfl) rfl rfl ?_
 refine RS.nil (hK3 _ _ ?_)
 refine T.joinE (σ := Unit) (γ := Unit) H Ex.go [] trivial (fun _ _ => []) (fun _ _ => Sat w [blk b1 [.int .i64 a0_p.W, .int .i64 a0_p.H, .slice p0 a0_p.Free.length c0, .slice p1 a0_p.Ts.length c1, .slice p2 a0_p.Parts.length c2] 25]) ?_ ?_
 ·rintro ⟨⟩ ⟨⟩ H
  try dsimp only [Ex.then] at H
  refine Cont.conseq (fr' := []) ?_ trivial (fun _ s => s)
  refine id (hK2 _ _ ?_)
  refine T.seq fun K4 hK4 => ?_
  refine T.region ?_
  obtain ⟨x3, hx3, H⟩ := bindE H
  refine RS.q (Qt.call (vs := []) ent16 rfl fun w s => thronglaw11_wakes_walk  w  hx3) rfl rfl ?_
  refine RS.p (Pu.assign rfl) rfl rfl ?_
  refine RS.nil (hK4 _ _ ?_)
  obtain rfl := Option.some.inj H
  refine T.rt (Cont.ret1 rfl rfl fun w' s => ?_)
  exact ⟨rfl, s.ext⟩
 ·intro z2 hz2 HX2 hJ2
  refine T.block ?_
  refine T.loopA (γ := Unit) hz2 [(1, _)] (fun v4 _ => [(3, .int .i64 v4)]) (fun v4 _ => Sat w [blk b1 [.int .i64 a0_p.W, .int .i64 a0_p.H, .slice p0 a0_p.Free.length c0, .slice p1 a0_p.Ts.length c1, .slice p2 a0_p.Parts.length c2] 25]) () ⟨rfl, trivial⟩ ⟨rfl, trivial⟩ (fun w s => s) ?_
  rintro v4 ⟨⟩ y5 H hd2 KL2 hL2
  try dsimp only [Ex.then] at H
  refine T.conseq (fr' := [(3, _), (1, _)]) ?_ ⟨rfl, rfl, trivial⟩ (fun _ s => s)
  refine T.seq fun K5 hK5 => ?_
  refine T.seq fun K6 hK6 => ?_
  refine T.region ?_
  refine RS.p (Pu.move rfl) rfl rfl ?_
  refine RS.p (Pu.bin rfl rfl rfl) rfl rfl ?_
  refine RS.nil (hK6 _ _ ?_)
  refine T.condP rfl (fun hc6 => ?_) (fun hc6 => ?_)
  ·have H := ifT hc6 H
   refine T.skip (hK5 _ _ ?_)
   refine T.seq fun K7 hK7 => ?_
   refine T.block ?_
   refine T.seq fun K8 hK8 => ?_
   refine T.region ?_
   obtain ⟨g8, H⟩ := gdE H
   refine RS.solid (Sd.make (α := Bool) (B := nilH) false sl22 zr4 rfl (by decide) rfl rfl (by omega) (by omega) (by omega)) rfl rfl fun b7 => ?_
   refine RS.p (Pu.assign rfl) rfl rfl ?_
   refine RS.nil (hK8 _ _ (T.conseq (fr' := [(1, _), (3, _), (4, _)]) ?_ ⟨rfl, rfl, rfl, trivial⟩ (fun _ s => s)))
   refine T.seq fun K9 hK9 => ?_
   refine T.region ?_
   refine RS.p (Pu.assign rfl) rfl rfl ?_
   refine RS.p (Pu.assign rfl) rfl rfl ?_
   refine RS.nil (hK9 _ _ ?_)
   refine T.seq fun K10 hK10 => ?_
   refine T.seq fun K11 hK11 => ?_
   refine T.region ?_
   refine RS.p (Pu.assign rfl) rfl rfl ?_
   refine RS.nil (hK11 _ _ ?_)
   refine T.joinE (σ := List Bool) (γ := Unit) H (fun s => s) [(1, _), (3, _), (4, _), (5, _), (6, _)] ⟨rfl, rfl, rfl, rfl, rfl, trivial⟩ (fun v10 _ => []) (fun v10 _ => Sat w [blk b1 [.int .i64 a0_p.W, .int .i64 a0_p.H, .slice p0 a0_p.Free.length c0, .slice p1 a0_p.Ts.length c1, .slice p2 a0_p.Parts.length c2] 25, row nilH 4 (rowV (some b7, (128 : Int).toNat) ((128 : Int).toNat)) v10]) ?_ ?_
   ·rintro v10 ⟨⟩ H
    try dsimp only [Ex.then] at H
    refine Cont.conseq (fr' := [(1, _), (3, _), (4, _), (5, _), (6, _)]) ?_ ⟨rfl, rfl, rfl, rfl, rfl, trivial⟩ (fun _ s => s)
    refine id (hK10 _ _ ?_)
    refine T.seq fun K12 hK12 => ?_
    refine T.seq fun K13 hK13 => ?_
    refine T.region ?_
    refine RS.p (Pu.assign rfl) rfl rfl ?_
    refine RS.nil (hK13 _ _ ?_)
    refine T.joinE (σ := Int × Int) (γ := Unit) H (fun s => s) [(1, _), (3, _), (4, _)] ⟨rfl, rfl, rfl, trivial⟩ (fun (v12, v13) _ => [(5, .int .i64 v12), (6, .int .i64 v13)]) (fun (v12, v13) _ => Sat w [blk b1 [.int .i64 a0_p.W, .int .i64 a0_p.H, .slice p0 a0_p.Free.length c0, .slice p1 a0_p.Ts.length c1, .slice p2 a0_p.Parts.length c2] 25, row nilH 4 (rowV (some b7, (128 : Int).toNat) ((128 : Int).toNat)) v10]) ?_ ?_
    ·rintro ⟨v12, v13⟩ ⟨⟩ H
     try dsimp only [Ex.then] at H
     refine Cont.conseq (fr' := [(5, _), (6, _), (1, _), (3, _), (4, _)]) ?_ ⟨rfl, rfl, rfl, rfl, rfl, trivial⟩ (fun _ s => s)
     refine id (hK12 _ _ ?_)
     refine T.seq fun K14 hK14 => ?_
     refine T.region ?_
     refine RS.p (Pu.move rfl) rfl rfl ?_
     obtain ⟨x14, hx14, H⟩ := bindE H
     refine RS.solid (Sd.callN (vs := [.int .i64 16, .int .i64 8, rowV (some b7, (128 : Int).toNat) ((128 : Int).toNat)]) ent11 rfl (fun w s => portal_Find_walk 16 8 v10 w ((Rd.ofRowN 1 rfl) w s) hx14)) rfl rfl fun q15 => ?_
     refine RS.p (Pu.move rfl) rfl rfl ?_
     refine RS.p (Pu.extract rfl rfl) rfl rfl ?_
     refine RS.p (Pu.extract rfl rfl) rfl rfl ?_
     refine RS.p (Pu.assign rfl) rfl rfl ?_
     refine RS.p (Pu.assign rfl) rfl rfl ?_
     refine RS.nil (hK14 _ _ (T.conseq (fr' := [(1, _), (3, _), (5, _), (6, _), (9, _), (10, _)]) ?_ ⟨rfl, rfl, rfl, rfl, rfl, rfl, trivial⟩ (fun _ s => s)))
     refine T.seq fun K15 hK15 => ?_
     refine T.seq fun K16 hK16 => ?_
     refine T.region ?_
     refine RS.p (Pu.move rfl) rfl rfl ?_
     obtain ⟨x16, hx16, H⟩ := bindE H
     refine RS.q (Qt.call (vs := [.int .i64 x14.2]) ent12 rfl fun w s => thronglaw11_num_walk x14.2 w  hx16) rfl rfl ?_
     refine RS.p (Pu.bin rfl rfl rfl) rfl rfl ?_
     refine RS.p (Pu.move rfl) rfl rfl ?_
     refine RS.joinV 5 78 (.bool (decide ((¬ x16 = 0) ∨ (¬ (x14.1.length : Int) = v12)))) [(1, _), (3, _), (6, _), (9, _)] ⟨rfl, rfl, rfl, rfl, trivial⟩ ?_ ?_
     ·refine RS.nil (hK16 _ _ ?_)
      refine T.condP rfl (fun hc19 => ?_) (fun hc19 => ?_)
      ·have H := ifT hc19 H
       refine T.conseq (fr' := []) ?_ trivial (fun _ s => s)
       refine T.seq fun K17 hK17 => ?_
       refine T.region ?_
       refine RS.p (Pu.assign rfl) rfl rfl ?_
       refine RS.nil (hK17 _ _ ?_)
       obtain rfl := hd2 _ H
       have H := HX2
       obtain rfl := Option.some.inj H
       refine T.rt (Cont.ret1 rfl rfl fun w' s => ?_)
       exact ⟨rfl, s.ext⟩
      ·have H := ifF hc19 H
       refine T.skip (hK15 _ _ ?_)
       refine T.seq fun K18 hK18 => ?_
       refine T.seq fun K19 hK19 => ?_
       refine T.region ?_
       refine RS.p (Pu.assign rfl) rfl rfl ?_
       refine RS.nil (hK19 _ _ ?_)
       refine T.joinE (σ := Int) (γ := Unit) H Ex.go [(1, _), (3, _)] ⟨rfl, rfl, trivial⟩ (fun v21 _ => [(6, .int .i64 v21)]) (fun v21 _ => Sat w [blk b1 [.int .i64 a0_p.W, .int .i64 a0_p.H, .slice p0 a0_p.Free.length c0, .slice p1 a0_p.Ts.length c1, .slice p2 a0_p.Parts.length c2] 25, row nilH 4 (rowV (some b7, (128 : Int).toNat) ((128 : Int).toNat)) v10, row nilH 40 (rowV q15 x14.1.length) x14.1]) ?_ ?_
       ·rintro v21 ⟨⟩ H
        try dsimp only [Ex.then] at H
        refine Cont.conseq (fr' := [(6, _), (1, _), (3, _)]) ?_ ⟨rfl, rfl, rfl, trivial⟩ (fun _ s => s)
        refine id (hK18 _ _ ?_)
        refine T.seq fun K20 hK20 => ?_
        refine T.region ?_
        refine RS.p (Pu.move rfl) rfl rfl ?_
        refine RS.p (Pu.bin rfl rfl rfl) rfl rfl ?_
        refine RS.nil (hK20 _ _ ?_)
        refine T.condP rfl (fun hc22 => ?_) (fun hc22 => ?_)
        ·have H := ifT hc22 H
         refine T.conseq (fr' := []) ?_ trivial (fun _ s => s)
         refine T.seq fun K21 hK21 => ?_
         refine T.region ?_
         refine RS.p (Pu.assign rfl) rfl rfl ?_
         refine RS.nil (hK21 _ _ ?_)
         obtain rfl := hd2 _ H
         have H := HX2
         obtain rfl := Option.some.inj H
         refine T.rt (Cont.ret1 rfl rfl fun w' s => ?_)
         exact ⟨rfl, s.ext⟩
        ·have H := ifF hc22 H
         refine T.skip (hK7 _ _ (T.conseq (fr' := [(1, _), (3, _)]) ?_ ⟨rfl, rfl, trivial⟩ (fun _ s => s)))
         refine T.region ?_
         refine RS.p (Pu.move rfl) rfl rfl ?_
         obtain ⟨g23, H⟩ := gdE H
         refine RS.p (Pu.addS rfl rfl g23) rfl rfl ?_
         refine RS.p (Pu.fieldAddr fd25_3 rfl) rfl rfl ?_
         refine RS.q (Qt.ldB 0 ty23 rfl rfl rfl) rfl rfl ?_
         refine RS.p (Pu.lenSl sl23 rfl) rfl rfl ?_
         obtain ⟨g24, H⟩ := gdE H
         refine RS.p (Pu.remN rfl rfl (and3 ⟨g24.1, g24.2, by decide⟩)) rfl rfl ?_
         obtain ⟨g25, H⟩ := gdE H
         refine RS.p (Pu.addS rfl rfl g25) rfl rfl ?_
         refine RS.p (Pu.assign rfl) rfl rfl ?_
         refine RS.nil (hL2 _ _ ((v4 + 1) + ((a0_p.Ts.length : Int) % 5)) () H ⟨rfl, trivial⟩ ⟨rfl, trivial⟩ (fun w s => s.pick [0] (by decide) rfl))
       ·intro z20 hz20 HX20 hJ20
        refine T.block ?_
        refine T.loopA (γ := Unit) hz20 [(1, _), (3, _), (9, _)] (fun (v26, v27) _ => [(6, .int .i64 v26), (11, .int .i64 v27)]) (fun (v26, v27) _ => Sat w [blk b1 [.int .i64 a0_p.W, .int .i64 a0_p.H, .slice p0 a0_p.Free.length c0, .slice p1 a0_p.Ts.length c1, .slice p2 a0_p.Parts.length c2] 25, row nilH 4 (rowV (some b7, (128 : Int).toNat) ((128 : Int).toNat)) v10, row nilH 40 (rowV q15 x14.1.length) x14.1]) () ⟨rfl, rfl, rfl, trivial⟩ ⟨rfl, rfl, trivial⟩ (fun w s => s) ?_
        rintro ⟨v26, v27⟩ ⟨⟩ y28 H hd20 KL20 hL20
        try dsimp only [Ex.then] at H
        refine T.conseq (fr' := [(6, _), (11, _), (1, _), (3, _), (9, _)]) ?_ ⟨rfl, rfl, rfl, rfl, rfl, trivial⟩ (fun _ s => s)
        refine T.seq fun K22 hK22 => ?_
        refine T.seq fun K23 hK23 => ?_
        refine T.region ?_
        refine RS.p (Pu.move rfl) rfl rfl ?_
        refine RS.p (Pu.move rfl) rfl rfl ?_
        refine RS.p (Pu.lenSl sl27 rfl) rfl rfl ?_
        refine RS.p (Pu.bin rfl rfl rfl) rfl rfl ?_
        refine RS.nil (hK23 _ _ ?_)
        refine T.condP rfl (fun hc29 => ?_) (fun hc29 => ?_)
        ·have H := ifT hc29 H
         refine T.skip (hK22 _ _ (T.conseq (fr' := [(1, _), (3, _), (6, _), (9, _), (11, _)]) ?_ ⟨rfl, rfl, rfl, rfl, rfl, trivial⟩ (fun _ s => s)))
         refine T.seq fun K24 hK24 => ?_
         refine T.block ?_
         refine T.seq fun K25 hK25 => ?_
         refine T.region ?_
         refine RS.p (Pu.move rfl) rfl rfl ?_
         refine RS.p (Pu.move rfl) rfl rfl ?_
         refine RS.p (Pu.move rfl) rfl rfl ?_
         obtain ⟨g30, H⟩ := gdE H
         refine RS.know (p := ∃ g cap, q15 = (some g, cap)) (fun w s => (s.row_some (k := 2) rfl (pos_of g30))) ?_
         rintro ⟨gg31, cc32, rfl⟩
         refine RS.p (Pu.indexSl sl27 rfl rfl g30) rfl rfl ?_
         refine RS.p (Pu.fieldAddr fd40_2 rfl) rfl rfl ?_
         refine RS.q (Qt.ldF (α := Prt) (Rd.ofRowN 2 rfl) ty3 rfl rfl g30 (by rintro _ _ rfl; rfl)) rfl rfl ?_
         obtain ⟨g33, H⟩ := gdE H
         refine RS.p (Pu.subS rfl rfl g33) rfl rfl ?_
         refine RS.p (Pu.assign rfl) rfl rfl ?_
         refine RS.nil (hK25 _ _ (T.conseq (fr' := [(1, _), (3, _), (6, _), (9, _), (11, _)]) ?_ ⟨rfl, rfl, rfl, rfl, rfl, trivial⟩ (fun _ s => s)))
         refine T.seq fun K26 hK26 => ?_
         refine T.drawn (fun _ => True) [(0, .pu), (1, .pu), (2, .pu), (3, .pu), (4, .rd), (5, .pu), (6, .pu), (7, .pu), (8, .pu), (9, .pu), (10, .pu), (11, .rd), (12, .pu), (13, .pu), (14, .pu), (15, .pu), (16, .rd), (17, .pu), (18, .pu), (19, .pu), (20, .pu), (21, .rd), (22, .pu), (23, .pu), (24, .pu), (25, .pu), (26, .pu), (27, .rd), (28, .pu), (29, .pu), (30, .pu)] mixed (ClE.sat _ _) (by kernel_rfl) ?_
         refine RD.p (fun _ _ => trivial) rfl (Pu.move rfl) rfl rfl ?_
         refine RD.p (fun _ _ => trivial) rfl (Pu.move rfl) rfl rfl ?_
         obtain ⟨g34, H⟩ := gdE H
         refine RD.p (fun _ _ => trivial) rfl (Pu.indexSl sl27 rfl rfl g34) rfl rfl ?_
         refine RD.p (fun _ _ => trivial) rfl (Pu.fieldAddr fd40_0 rfl) rfl rfl ?_
         refine RD.q (fun _ _ => trivial) rfl (Qt.ldF (α := Prt) (Rd.ofRowN 2 rfl) ty3 rfl rfl g34 (by rintro _ _ rfl; rfl)) rfl rfl ?_
         obtain ⟨g35, H⟩ := gdE H
         refine RD.p (fun _ _ => trivial) rfl (Pu.remN rfl rfl (and3 ⟨g35.1, g35.2, by decide⟩)) rfl rfl ?_
         refine RD.p (fun _ _ => trivial) rfl (Pu.bin rfl rfl rfl) rfl rfl ?_
         refine RD.p (fun _ _ => trivial) rfl (Pu.move rfl) rfl rfl ?_
         obtain ⟨g38, H⟩ := gdE H
         obtain ⟨g39, H⟩ := gdE H
         obtain ⟨g40, H⟩ := gdE H
         obtain ⟨g41, H⟩ := gdE H
         obtain ⟨g42, H⟩ := gdE H
         refine RD.joinV 23 122 (.bool (decide ((¬ (((gi x14.1 v27).a) % 16) = 7) ∨ (¬ (gi x14.1 v27) = (⟨(gi x14.1 v27).a, (((gi x14.1 v27).a) + 1), (gi x14.1 v27).width⟩ : Prt))))) [(1, _), (3, _), (6, _), (9, _), (11, _)] ⟨rfl, rfl, rfl, rfl, rfl, trivial⟩ ?_ ?_
         ·refine RD.nil (hK26 _ _ ?_)
          refine T.condP rfl (fun hc43 => ?_) (fun hc43 => ?_)
          ·have H := ifT hc43 H
           refine T.conseq (fr' := []) ?_ trivial (fun _ s => s)
           refine T.seq fun K27 hK27 => ?_
           refine T.region ?_
           refine RS.p (Pu.assign rfl) rfl rfl ?_
           refine RS.nil (hK27 _ _ ?_)
           obtain rfl := hd20 _ H
           have H := HX20
           obtain rfl := hd2 _ H
           have H := HX2
           obtain rfl := Option.some.inj H
           refine T.rt (Cont.ret1 rfl rfl fun w' s => ?_)
           exact ⟨rfl, s.ext⟩
          ·have H := ifF hc43 H
           refine T.skip (hK24 _ _ ?_)
           refine T.region ?_
           refine RS.p (Pu.move rfl) rfl rfl ?_
           obtain ⟨g44, H⟩ := gdE H
           refine RS.p (Pu.addS rfl rfl g44) rfl rfl ?_
           refine RS.p (Pu.assign rfl) rfl rfl ?_
           refine RS.nil (hL20 _ _ ((v26 - ((gi x14.1 v27).width)), (v27 + 1)) () H ⟨rfl, rfl, rfl, trivial⟩ ⟨rfl, rfl, trivial⟩ (fun w s => s))
         ·intro hJ37
          refine RD.splitP 99 rfl (fun hc36 => ?_) (fun hc36 => ?_)
          ·refine RD.no (fun _ _ => trivial) rfl rfl rfl (.inl rfl) ?_
           refine RD.no (fun _ _ => trivial) rfl rfl rfl (.inl rfl) ?_
           refine RD.no (fun _ _ => trivial) rfl rfl rfl (.inl rfl) ?_
           refine RD.no (fun _ _ => trivial) rfl rfl rfl (.inr (.inr rfl)) ?_
           refine RD.no (fun _ _ => trivial) rfl rfl rfl (.inl rfl) ?_
           refine RD.no (fun _ _ => trivial) rfl rfl rfl (.inl rfl) ?_
           refine RD.no (fun _ _ => trivial) rfl rfl rfl (.inl rfl) ?_
           refine RD.no (fun _ _ => trivial) rfl rfl rfl (.inl rfl) ?_
           refine RD.no (fun _ _ => trivial) rfl rfl rfl (.inr (.inr rfl)) ?_
           refine RD.no (fun _ _ => trivial) rfl rfl rfl (.inl rfl) ?_
           refine RD.no (fun _ _ => trivial) rfl rfl rfl (.inl rfl) ?_
           refine RD.no (fun _ _ => trivial) rfl rfl rfl (.inl rfl) ?_
           refine RD.no (fun _ _ => trivial) rfl rfl rfl (.inl rfl) ?_
           refine RD.no (fun _ _ => trivial) rfl rfl rfl (.inr (.inr rfl)) ?_
           refine RD.no (fun _ _ => trivial) rfl rfl rfl (.inl rfl) ?_
           refine RD.no (fun _ _ => trivial) rfl rfl rfl (.inl rfl) ?_
           refine RD.no (fun _ _ => trivial) rfl rfl rfl (.inl rfl) ?_
           refine RD.no (fun _ _ => trivial) rfl rfl rfl (.inl rfl) ?_
           refine RD.no (fun _ _ => trivial) rfl rfl rfl (.inl rfl) ?_
           refine RD.no (fun _ _ => trivial) rfl rfl rfl (.inr (.inr rfl)) ?_
           refine RD.no (fun _ _ => trivial) rfl rfl rfl (.inl rfl) ?_
           refine RD.no (fun _ _ => trivial) rfl rfl rfl (.inl rfl) ?_
           refine RD.p (fun _ _ => trivial) rfl (Pu.pickT rfl rfl) rfl rfl ?_
           exact hJ37 _ ⟨dOrT hc36, rfl, rfl, rfl, rfl, rfl, trivial⟩
          ·refine RD.p (fun _ _ => trivial) rfl (Pu.move rfl) rfl rfl ?_
           refine RD.p (fun _ _ => trivial) rfl (Pu.move rfl) rfl rfl ?_
           refine RD.p (fun _ _ => trivial) rfl (Pu.indexSl sl27 rfl rfl (g38 hc36)) rfl rfl ?_
           refine RD.q (fun _ _ => trivial) rfl (Qt.ldW (α := Prt) (cs := [_, _, _]) (Rd.ofRowN 2 rfl) ty40 rfl rfl (g38 hc36) rfl (by rintro _ _ rfl; rfl)) rfl rfl ?_
           refine RD.p (fun _ _ => trivial) rfl (Pu.move rfl) rfl rfl ?_
           refine RD.p (fun _ _ => trivial) rfl (Pu.move rfl) rfl rfl ?_
           refine RD.p (fun _ _ => trivial) rfl (Pu.indexSl sl27 rfl rfl (g39 hc36)) rfl rfl ?_
           refine RD.p (fun _ _ => trivial) rfl (Pu.fieldAddr fd40_0 rfl) rfl rfl ?_
           refine RD.q (fun _ _ => trivial) rfl (Qt.ldF (α := Prt) (Rd.ofRowN 2 rfl) ty3 rfl rfl (g39 hc36) (by rintro _ _ rfl; rfl)) rfl rfl ?_
           refine RD.p (fun _ _ => trivial) rfl (Pu.move rfl) rfl rfl ?_
           refine RD.p (fun _ _ => trivial) rfl (Pu.move rfl) rfl rfl ?_
           refine RD.p (fun _ _ => trivial) rfl (Pu.indexSl sl27 rfl rfl (g40 hc36)) rfl rfl ?_
           refine RD.p (fun _ _ => trivial) rfl (Pu.fieldAddr fd40_0 rfl) rfl rfl ?_
           refine RD.q (fun _ _ => trivial) rfl (Qt.ldF (α := Prt) (Rd.ofRowN 2 rfl) ty3 rfl rfl (g40 hc36) (by rintro _ _ rfl; rfl)) rfl rfl ?_
           refine RD.p (fun _ _ => trivial) rfl (Pu.addS rfl rfl (g41 hc36)) rfl rfl ?_
           refine RD.p (fun _ _ => trivial) rfl (Pu.move rfl) rfl rfl ?_
           refine RD.p (fun _ _ => trivial) rfl (Pu.move rfl) rfl rfl ?_
           refine RD.p (fun _ _ => trivial) rfl (Pu.indexSl sl27 rfl rfl (g42 hc36)) rfl rfl ?_
           refine RD.p (fun _ _ => trivial) rfl (Pu.fieldAddr fd40_2 rfl) rfl rfl ?_
           refine RD.q (fun _ _ => trivial) rfl (Qt.ldF (α := Prt) (Rd.ofRowN 2 rfl) ty3 rfl rfl (g42 hc36) (by rintro _ _ rfl; rfl)) rfl rfl ?_
           refine RD.p (fun _ _ => trivial) rfl (Pu.build (cells := [_, _, _]) st40 rfl rfl) rfl rfl ?_
           refine RD.p (fun _ _ => trivial) rfl (Pu.neSt eqt40 rfl rfl rfl (eq_Prt (gi x14.1 v27) (⟨(gi x14.1 v27).a, (((gi x14.1 v27).a) + 1), (gi x14.1 v27).width⟩ : Prt))) rfl rfl ?_
           refine RD.p (fun _ _ => trivial) rfl (Pu.pickF rfl rfl) rfl rfl ?_
           exact hJ37 _ ⟨dOrF hc36, rfl, rfl, rfl, rfl, rfl, trivial⟩
        ·have H := ifF hc29 H
         obtain rfl := hd20 _ H
         refine T.xt (hJ20 _ _ v26 () HX20 ⟨rfl, rfl, trivial⟩ ⟨rfl, trivial⟩ (fun w s => s))
     ·intro hJ18
      refine RS.splitP 73 rfl (fun hc17 => ?_) (fun hc17 => ?_)
      ·refine RS.no rfl rfl ?_
       refine RS.no rfl rfl ?_
       refine RS.no rfl rfl ?_
       refine RS.no rfl rfl ?_
       refine RS.p (Pu.pickT rfl rfl) rfl rfl ?_
       exact hJ18 _ _ ⟨dOrT hc17, rfl, rfl, rfl, rfl, trivial⟩ (fun w s => s)
      ·refine RS.p (Pu.move rfl) rfl rfl ?_
       refine RS.p (Pu.lenSl sl27 rfl) rfl rfl ?_
       refine RS.p (Pu.move rfl) rfl rfl ?_
       refine RS.p (Pu.bin rfl rfl rfl) rfl rfl ?_
       refine RS.p (Pu.pickF rfl rfl) rfl rfl ?_
       exact hJ18 _ _ ⟨dOrF hc17, rfl, rfl, rfl, rfl, trivial⟩ (fun w s => s)
    ·intro z11 hz11 HX11 hJ11
     refine T.block ?_
     refine T.loopA (γ := Unit) hz11 [(1, _), (3, _), (4, _)] (fun (v45, v46, v47) _ => [(5, .int .i64 v45), (6, .int .i64 v46), (8, .int .i64 v47)]) (fun (v45, v46, v47) _ => Sat w [blk b1 [.int .i64 a0_p.W, .int .i64 a0_p.H, .slice p0 a0_p.Free.length c0, .slice p1 a0_p.Ts.length c1, .slice p2 a0_p.Parts.length c2] 25, row nilH 4 (rowV (some b7, (128 : Int).toNat) ((128 : Int).toNat)) v10]) () ⟨rfl, rfl, rfl, trivial⟩ ⟨rfl, rfl, rfl, trivial⟩ (fun w s => s) ?_
     rintro ⟨v45, v46, v47⟩ ⟨⟩ y48 H hd11 KL11 hL11
     try dsimp only [Ex.then] at H
     refine T.conseq (fr' := [(5, _), (6, _), (8, _), (1, _), (3, _), (4, _)]) ?_ ⟨rfl, rfl, rfl, rfl, rfl, rfl, trivial⟩ (fun _ s => s)
     refine T.seq fun K28 hK28 => ?_
     refine T.seq fun K29 hK29 => ?_
     refine T.region ?_
     refine RS.p (Pu.move rfl) rfl rfl ?_
     refine RS.p (Pu.bin rfl rfl rfl) rfl rfl ?_
     refine RS.nil (hK29 _ _ ?_)
     refine T.condP rfl (fun hc49 => ?_) (fun hc49 => ?_)
     ·have H := ifT hc49 H
      refine T.skip (hK28 _ _ ?_)
      refine T.seq fun K30 hK30 => ?_
      refine T.block ?_
      refine T.seq fun K31 hK31 => ?_
      refine T.region ?_
      refine RS.p (Pu.move rfl) rfl rfl ?_
      refine RS.p (Pu.move rfl) rfl rfl ?_
      obtain ⟨g50, H⟩ := gdE H
      refine RS.p (Pu.shrV rfl rfl g50) rfl rfl ?_
      refine RS.p (Pu.andM2 rfl rfl) rfl rfl ?_
      refine RS.p (Pu.bin rfl rfl rfl) rfl rfl ?_
      refine RS.nil (hK31 _ _ ?_)
      refine T.condP rfl (fun hc51 => ?_) (fun hc51 => ?_)
      ·have H := ifT hc51 H
       refine T.conseq (fr' := [(1, _), (3, _), (4, _), (5, _), (6, _), (8, _)]) ?_ ⟨rfl, rfl, rfl, rfl, rfl, rfl, trivial⟩ (fun _ s => s)
       refine T.seq fun K32 hK32 => ?_
       refine T.region ?_
       refine RS.p (Pu.move rfl) rfl rfl ?_
       obtain ⟨g52, H⟩ := gdE H
       refine RS.p (Pu.addS rfl rfl g52) rfl rfl ?_
       refine RS.p (Pu.assign rfl) rfl rfl ?_
       refine RS.nil (hK32 _ _ ?_)
       refine T.seq fun K33 hK33 => ?_
       refine T.region ?_
       refine RS.p (Pu.move rfl) rfl rfl ?_
       refine RS.p (Pu.bin rfl rfl rfl) rfl rfl ?_
       refine RS.p (Pu.move rfl) rfl rfl ?_
       obtain ⟨g55, H⟩ := gdE H
       obtain ⟨g56, H⟩ := gdE H
       refine RS.joinV 7 62 (.bool (decide ((v47 = 0) ∨ (((v4 / 2 ^ (v47 - 1).toNat) % 2) = 0)))) [(1, _), (3, _), (4, _), (5, _), (6, _), (8, _)] ⟨rfl, rfl, rfl, rfl, rfl, rfl, trivial⟩ ?_ ?_
       ·refine RS.nil (hK33 _ _ ?_)
        refine T.condP rfl (fun hc57 => ?_) (fun hc57 => ?_)
        ·have H := ifT hc57 H
         refine T.region ?_
         refine RS.p (Pu.move rfl) rfl rfl ?_
         obtain ⟨g58, H⟩ := gdE H
         refine RS.p (Pu.addS rfl rfl g58) rfl rfl ?_
         refine RS.p (Pu.assign rfl) rfl rfl ?_
         refine RS.nil (hK30 _ _ (T.conseq (fr' := [(1, _), (3, _), (4, _), (5, _), (6, _), (8, _)]) ?_ ⟨rfl, rfl, rfl, rfl, rfl, rfl, trivial⟩ (fun _ s => s)))
         refine T.region ?_
         refine RS.p (Pu.move rfl) rfl rfl ?_
         obtain ⟨g59, H⟩ := gdE H
         refine RS.p (Pu.addS rfl rfl g59) rfl rfl ?_
         refine RS.p (Pu.assign rfl) rfl rfl ?_
         refine RS.nil (hL11 _ _ ((v45 + 1), (v46 + 1), (v47 + 1)) () H ⟨rfl, rfl, rfl, trivial⟩ ⟨rfl, rfl, rfl, trivial⟩ (fun w s => s))
        ·have H := ifF hc57 H
         refine T.skip (hK30 _ _ ?_)
         refine T.region ?_
         refine RS.p (Pu.move rfl) rfl rfl ?_
         obtain ⟨g60, H⟩ := gdE H
         refine RS.p (Pu.addS rfl rfl g60) rfl rfl ?_
         refine RS.p (Pu.assign rfl) rfl rfl ?_
         refine RS.nil (hL11 _ _ (v45, (v46 + 1), (v47 + 1)) () H ⟨rfl, rfl, rfl, trivial⟩ ⟨rfl, rfl, rfl, trivial⟩ (fun w s => s))
       ·intro hJ54
        refine RS.splitP 55 rfl (fun hc53 => ?_) (fun hc53 => ?_)
        ·refine RS.no rfl rfl ?_
         refine RS.no rfl rfl ?_
         refine RS.no rfl rfl ?_
         refine RS.no rfl rfl ?_
         refine RS.no rfl rfl ?_
         refine RS.no rfl rfl ?_
         refine RS.p (Pu.pickT rfl rfl) rfl rfl ?_
         exact hJ54 _ _ ⟨dOrT hc53, rfl, rfl, rfl, rfl, rfl, rfl, trivial⟩ (fun w s => s)
        ·refine RS.p (Pu.move rfl) rfl rfl ?_
         refine RS.p (Pu.move rfl) rfl rfl ?_
         refine RS.p (Pu.subS rfl rfl (g55 hc53)) rfl rfl ?_
         refine RS.p (Pu.shrV rfl rfl (g56 hc53)) rfl rfl ?_
         refine RS.p (Pu.andM2 rfl rfl) rfl rfl ?_
         refine RS.p (Pu.bin rfl rfl rfl) rfl rfl ?_
         refine RS.p (Pu.pickF rfl rfl) rfl rfl ?_
         exact hJ54 _ _ ⟨dOrF hc53, rfl, rfl, rfl, rfl, rfl, rfl, trivial⟩ (fun w s => s)
      ·have H := ifF hc51 H
       refine T.skip (hK30 _ _ (T.conseq (fr' := [(1, _), (3, _), (4, _), (5, _), (6, _), (8, _)]) ?_ ⟨rfl, rfl, rfl, rfl, rfl, rfl, trivial⟩ (fun _ s => s)))
       refine T.region ?_
       refine RS.p (Pu.move rfl) rfl rfl ?_
       obtain ⟨g61, H⟩ := gdE H
       refine RS.p (Pu.addS rfl rfl g61) rfl rfl ?_
       refine RS.p (Pu.assign rfl) rfl rfl ?_
       refine RS.nil (hL11 _ _ (v45, v46, (v47 + 1)) () H ⟨rfl, rfl, rfl, trivial⟩ ⟨rfl, rfl, rfl, trivial⟩ (fun w s => s))
     ·have H := ifF hc49 H
      obtain rfl := hd11 _ H
      refine T.xt (hJ11 _ _ (v45, v46) () HX11 ⟨rfl, rfl, rfl, trivial⟩ ⟨rfl, rfl, trivial⟩ (fun w s => s))
   ·intro z9 hz9 HX9 hJ9
    refine T.block ?_
    refine T.loopA (γ := Unit) hz9 [(1, _), (3, _), (4, _), (5, _), (6, _)] (fun (v62, l63) _ => [(7, .int .i64 v62)]) (fun (v62, l63) _ => Sat w [blk b1 [.int .i64 a0_p.W, .int .i64 a0_p.H, .slice p0 a0_p.Free.length c0, .slice p1 a0_p.Ts.length c1, .slice p2 a0_p.Parts.length c2] 25, row nilH 4 (rowV (some b7, (128 : Int).toNat) ((128 : Int).toNat)) l63]) () ⟨rfl, rfl, rfl, rfl, rfl, trivial⟩ ⟨rfl, trivial⟩ (fun w s => s) ?_
    rintro ⟨v62, l63⟩ ⟨⟩ y64 H hd9 KL9 hL9
    try dsimp only [Ex.then] at H
    refine T.conseq (fr' := [(7, _), (1, _), (3, _), (4, _), (5, _), (6, _)]) ?_ ⟨rfl, rfl, rfl, rfl, rfl, rfl, trivial⟩ (fun _ s => s)
    refine T.seq fun K34 hK34 => ?_
    refine T.seq fun K35 hK35 => ?_
    refine T.region ?_
    refine RS.p (Pu.move rfl) rfl rfl ?_
    refine RS.p (Pu.move rfl) rfl rfl ?_
    refine RS.p (Pu.lenSl sl22 rfl) rfl rfl ?_
    refine RS.p (Pu.bin rfl rfl rfl) rfl rfl ?_
    refine RS.nil (hK35 _ _ ?_)
    refine T.condP rfl (fun hc65 => ?_) (fun hc65 => ?_)
    ·have H := ifT hc65 H
     refine T.skip (hK34 _ _ (T.conseq (fr' := [(1, _), (3, _), (4, _), (5, _), (6, _), (7, _)]) ?_ ⟨rfl, rfl, rfl, rfl, rfl, rfl, trivial⟩ (fun _ s => s)))
     refine T.seq fun K36 hK36 => ?_
     refine T.block ?_
     refine T.region ?_
     refine RS.p (Pu.move rfl) rfl rfl ?_
     refine RS.p (Pu.move rfl) rfl rfl ?_
     refine RS.p (Pu.move rfl) rfl rfl ?_
     obtain ⟨g66, H⟩ := gdE H
     refine RS.p (Pu.remN rfl rfl (and3 ⟨g66.1, g66.2, by decide⟩)) rfl rfl ?_
     refine RS.p (Pu.bin rfl rfl rfl) rfl rfl ?_
     refine RS.p (Pu.move rfl) rfl rfl ?_
     obtain ⟨g69, H⟩ := gdE H
     obtain ⟨g70, H⟩ := gdE H
     refine RS.joinV 7 40 (.bool (decide ((¬ (v62 % 16) = 8) ∨ (((v4 / 2 ^ (v62 / 16).toNat) % 2) = 1)))) [(1, _), (3, _), (4, _), (5, _), (6, _), (7, _), (28, _), (29, _)] ⟨rfl, rfl, rfl, rfl, rfl, rfl, rfl, rfl, trivial⟩ ?_ ?_
     ·obtain ⟨g71, H⟩ := gdE H
      refine RS.know (fun w s => (s.row_fits (q := (some b7, (128 : Int).toNat)) (m := (128 : Int).toNat) (k := 1) rfl)) fun hf72 => ?_
      refine RS.p (Pu.indexSl sl22 rfl rfl g71) rfl rfl ?_
      refine RS.solid (Sd.st0 (α := Bool) 1 (decide ((¬ (v62 % 16) = 8) ∨ (((v4 / 2 ^ (v62 / 16).toNat) % 2) = 1))) rfl ty4 rfl rfl rfl (idx_of hf72.1 g71) rfl rfl (by decide) rfl (by rintro _ _ rfl; rfl)) rfl rfl fun _ => ?_
      refine RS.nil (hK36 _ _ (T.conseq (fr' := [(1, _), (3, _), (4, _), (5, _), (6, _), (7, _)]) ?_ ⟨rfl, rfl, rfl, rfl, rfl, rfl, trivial⟩ (fun _ s => s)))
      refine T.region ?_
      refine RS.p (Pu.move rfl) rfl rfl ?_
      obtain ⟨g73, H⟩ := gdE H
      refine RS.p (Pu.addS rfl rfl g73) rfl rfl ?_
      refine RS.p (Pu.assign rfl) rfl rfl ?_
      refine RS.nil (hL9 _ _ ((v62 + 1), (si l63 v62 (decide ((¬ (v62 % 16) = 8) ∨ (((v4 / 2 ^ (v62 / 16).toNat) % 2) = 1))))) () H ⟨rfl, rfl, rfl, rfl, rfl, trivial⟩ ⟨rfl, trivial⟩ (fun w s => s))
     ·intro hJ68
      refine RS.splitP 33 rfl (fun hc67 => ?_) (fun hc67 => ?_)
      ·refine RS.no rfl rfl ?_
       refine RS.no rfl rfl ?_
       refine RS.no rfl rfl ?_
       refine RS.no rfl rfl ?_
       refine RS.no rfl rfl ?_
       refine RS.no rfl rfl ?_
       refine RS.p (Pu.pickT rfl rfl) rfl rfl ?_
       exact hJ68 _ _ ⟨dOrT hc67, rfl, rfl, rfl, rfl, rfl, rfl, rfl, rfl, trivial⟩ (fun w s => s)
      ·refine RS.p (Pu.move rfl) rfl rfl ?_
       refine RS.p (Pu.move rfl) rfl rfl ?_
       refine RS.p (Pu.quoN rfl rfl ⟨(g69 hc67).1, (g69 hc67).2, by decide⟩) rfl rfl ?_
       refine RS.p (Pu.shrV rfl rfl (g70 hc67)) rfl rfl ?_
       refine RS.p (Pu.andM2 rfl rfl) rfl rfl ?_
       refine RS.p (Pu.bin rfl rfl rfl) rfl rfl ?_
       refine RS.p (Pu.pickF rfl rfl) rfl rfl ?_
       exact hJ68 _ _ ⟨dOrF hc67, rfl, rfl, rfl, rfl, rfl, rfl, rfl, rfl, trivial⟩ (fun w s => s)
    ·have H := ifF hc65 H
     obtain rfl := hd9 _ H
     refine T.xt (hJ9 _ _ l63 () HX9 ⟨rfl, rfl, rfl, rfl, rfl, trivial⟩ trivial (fun w s => s))
  ·have H := ifF hc6 H
   obtain rfl := hd2 _ H
   refine T.xt (hJ2 _ _ () () HX2 trivial trivial (fun w s => s))
end Go.Proofs.Ytddicdmleeaihaa
