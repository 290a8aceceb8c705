/-
  Walk of FieldDirs.
-/
import Derived.Test.YtgpjjcncdaelpaaRows
import Derived.Test.YtgpjjcncdaelpaaFK
import Derived.Test.YtgpjjcncdaelpaaFG3
set_option linter.unusedVariables false
set_option linter.unusedSimpArgs false
set_option maxRecDepth 20000
set_option maxHeartbeats 4000000
namespace Go.Proofs.Ytgpjjcncdaelpaa
open Go.Vg
open Enc (R)
theorem ent34 : Ent Try.prog 34 := ⟨_, _, Try.func34, by kernel_rfl, rfl⟩
theorem ent35 : Ent Try.prog 35 := ⟨_, _, Try.func35, by kernel_rfl, rfl⟩
theorem ent36 : Ent Try.prog 36 := ⟨_, _, Try.func36, by kernel_rfl, rfl⟩
theorem ent43 : Ent Try.prog 43 := ⟨_, _, Try.func43, by kernel_rfl, rfl⟩
theorem ent44 : Ent Try.prog 44 := ⟨_, _, Try.func44, by kernel_rfl, rfl⟩
theorem ent49 : Ent Try.prog 49 := ⟨_, _, Try.func49, by kernel_rfl, rfl⟩
theorem ent50 : Ent Try.prog 50 := ⟨_, _, Try.func50, by kernel_rfl, rfl⟩
theorem ty56 : tySz Try.prog 56 = some (7, true) := by kernel_rfl
theorem thronglaw13_FieldDirs_walk (a0_p : Ask13) (w : World) {v0 v1 v2 : Value} (h0 : R (hpOf w) a0_p.g.tiles [v0]) (h1 : R (hpOf w) a0_p.l [v1]) (h2 : R (hpOf w) a0_p.ts [v2]) {r : Bool} (H : thronglaw13_FieldDirs a0_p = some r) : Calls Try.prog 14 #[.agg #[.int .i64 a0_p.g.w, .int .i64 a0_p.g.h, v0, v1, .int .i64 a0_p.cls, .int .i64 a0_p.size, v2]] w fun e w' => e = .returned (.bool r) ∧ Ext w w' := by
 have hm0 := R_max h0
 obtain ⟨p0, c0, rfl⟩ := R_form h0
 have hm1 := R_max h1
 obtain ⟨p1, c1, rfl⟩ := R_form h1
 have hm2 := R_max h2
 obtain ⟨p2, c2, rfl⟩ := R_form h2
 unfold thronglaw13_FieldDirs at H
 refine T.enter (args := [_]) (S := Sat w []) Try.func14 rfl rfl (Sat.start w) ?_
 refine T.seq fun K1 hK1 => ?_
 refine T.region ?_
 refine RS.solid (Sd.box (cs := [_, _, _, _, _, _, _]) rfl rfl) rfl rfl fun b1 => ?_
 refine RS.p (Pu.assign rfl) rfl rfl ?_
 refine RS.nil (hK1 _ _ ?_)
 refine T.seq fun K2 hK2 => ?_
 refine T.seq fun K3 hK3 => ?_
 refine T.region ?_
 refine RS.q (Qt.ldBA (us := [_, _, _, _, _, _, _]) 0 ty56 rfl rfl rfl rfl) rfl rfl ?_
 obtain ⟨x2, hx2, H⟩ := bindE H
 refine RS.q (Qt.call (vs := [.agg #[.int .i64 a0_p.g.w, .int .i64 a0_p.g.h, .slice p0 a0_p.g.tiles.length c0, .slice p1 a0_p.l.length c1, .int .i64 a0_p.cls, .int .i64 a0_p.size, .slice p2 a0_p.ts.length c2]]) ent34 rfl fun w s => thronglaw13_Heavy_walk a0_p w ((Rd.base h0) w s) ((Rd.base h1) w s) ((Rd.base h2) w s) hx2) rfl rfl ?_
 refine RS.nil (hK3 _ _ ?_)
 refine T.cond rfl (fun hc3 => ?_) (fun hc3 => ?_)
 ·have H := ifT hc3 H
  refine T.conseq (fr' := []) ?_ trivial (fun _ s => s)
  refine T.seq fun K4 hK4 => ?_
  refine T.region ?_
  refine RS.p (Pu.assign rfl) rfl rfl ?_
  refine RS.nil (hK4 _ _ ?_)
  obtain rfl := Option.some.inj H
  refine T.retTo (by with_reducible ((repeat (first | apply RetTo.seq | apply RetTo.blk)); exact RetTo.refl _)) (Cont.ret1 rfl rfl fun w' s => ?_)
  exact ⟨rfl, s.ext⟩
 ·have H := ifB hc3 H
  refine T.skip (hK2 _ _ (T.conseq (fr' := [(1, _)]) ?_ ⟨rfl, trivial⟩ (fun _ s => s)))
  refine T.seq fun K5 hK5 => ?_
  refine T.seq fun K6 hK6 => ?_
  refine T.region ?_
  refine RS.p (Pu.assign rfl) rfl rfl ?_
  refine RS.nil (hK6 _ _ ?_)
  refine T.joinE (σ := Unit) (γ := Unit) H Ex.go [] trivial (fun _ _ => []) (fun _ _ => Sat w [blk b1 [.int .i64 a0_p.g.w, .int .i64 a0_p.g.h, .slice p0 a0_p.g.tiles.length c0, .slice p1 a0_p.l.length c1, .int .i64 a0_p.cls, .int .i64 a0_p.size, .slice p2 a0_p.ts.length c2] 56]) ?_ ?_
  ·rintro ⟨⟩ ⟨⟩ H
   try dsimp only [Ex.then] at H
   refine Cont.conseq (fr' := []) ?_ trivial (fun _ s => s)
   refine id (hK5 _ _ ?_)
   refine T.seq fun K7 hK7 => ?_
   refine T.region ?_
   obtain ⟨x5, hx5, H⟩ := bindE H
   refine RS.q (Qt.call (vs := []) ent44 rfl fun w s => thronglaw13_wakes_walk  w  hx5) rfl rfl ?_
   refine RS.p (Pu.assign rfl) rfl rfl ?_
   refine RS.nil (hK7 _ _ ?_)
   obtain rfl := Option.some.inj H
   refine T.retTo (by with_reducible ((repeat (first | apply RetTo.seq | apply RetTo.blk)); exact RetTo.refl _)) (Cont.ret1 rfl rfl fun w' s => ?_)
   exact ⟨rfl, s.ext⟩
  ·intro z4 hz4 HX4 hJ4
   refine T.block ?_
   refine T.loopA (γ := Unit) hz4 [(1, _)] (fun v6 _ => [(3, .int .i64 v6)]) (fun v6 _ => Sat w [blk b1 [.int .i64 a0_p.g.w, .int .i64 a0_p.g.h, .slice p0 a0_p.g.tiles.length c0, .slice p1 a0_p.l.length c1, .int .i64 a0_p.cls, .int .i64 a0_p.size, .slice p2 a0_p.ts.length c2] 56]) () ⟨rfl, trivial⟩ ⟨rfl, trivial⟩ (fun w s => s) ?_
   rintro v6 ⟨⟩ y7 H hd4 KL4 hL4
   try dsimp only [Ex.then] at H
   refine T.conseq (fr' := [(3, _), (1, _)]) ?_ ⟨rfl, rfl, trivial⟩ (fun _ s => s)
   refine T.seq fun K8 hK8 => ?_
   refine T.seq fun K9 hK9 => ?_
   refine T.region ?_
   refine RS.p (Pu.move rfl) rfl rfl ?_
   refine RS.p (Pu.fieldAddr fd56_4 rfl) rfl rfl ?_
   refine RS.q (Qt.ldB 0 ty26 rfl rfl rfl) rfl rfl ?_
   refine RS.p (Pu.lenSl sl26 rfl) rfl rfl ?_
   refine RS.p (Pu.bin rfl rfl rfl) rfl rfl ?_
   refine RS.p (Pu.move rfl) rfl rfl ?_
   refine RS.joinV 3 18 (.bool (decide ((v6 < (a0_p.ts.length : Int)) ∧ (v6 < 6)))) [(1, _), (3, _)] ⟨rfl, rfl, trivial⟩ ?_ ?_
   ·refine RS.nil (hK9 _ _ ?_)
    refine T.condP rfl (fun hc10 => ?_) (fun hc10 => ?_)
    ·have H := ifT hc10 H
     refine T.skip (hK8 _ _ ?_)
     refine T.seq fun K10 hK10 => ?_
     refine T.block ?_
     refine T.seq fun K11 hK11 => ?_
     refine T.region ?_
     refine RS.q (Qt.ldBA (us := [_, _, _, _, _, _, _]) 0 ty56 rfl rfl rfl rfl) rfl rfl ?_
     obtain ⟨x11, hx11, H⟩ := bindE H
     refine RS.q (Qt.call (vs := [.agg #[.int .i64 a0_p.g.w, .int .i64 a0_p.g.h, .slice p0 a0_p.g.tiles.length c0, .slice p1 a0_p.l.length c1, .int .i64 a0_p.cls, .int .i64 a0_p.size, .slice p2 a0_p.ts.length c2]]) ent35 rfl fun w s => thronglaw13_form_walk a0_p w ((Rd.base h0) w s) ((Rd.base h1) w s) ((Rd.base h2) w s) hx11) rfl rfl ?_
     refine RS.p (Pu.assign rfl) rfl rfl ?_
     refine RS.p (Pu.assign rfl) rfl rfl ?_
     refine RS.nil (hK11 _ _ (T.conseq (fr' := [(1, _), (3, _), (4, _), (5, _)]) ?_ ⟨rfl, rfl, rfl, rfl, trivial⟩ (fun _ s => s)))
     refine T.seq fun K12 hK12 => ?_
     refine T.seq fun K13 hK13 => ?_
     refine T.drawn (fun _ => True) [(0, .pu), (1, .pu), (2, .pu), (3, .pu), (4, .rd), (5, .pu), (6, .rd), (7, .pu), (8, .pu), (9, .rd), (10, .rd), (11, .pu), (12, .pu)] mixed (ClE.sat _ _) (by kernel_rfl) ?_
     refine RD.p (fun _ _ => trivial) rfl (Pu.move rfl) rfl rfl ?_
     refine RD.p (fun _ _ => trivial) rfl (Pu.bin rfl rfl rfl) rfl rfl ?_
     refine RD.p (fun _ _ => trivial) rfl (Pu.move rfl) rfl rfl ?_
     refine RD.joinB H 10 35 (fun b14 => .bool b14) [(1, _), (3, _), (4, _), (5, _)] ⟨rfl, rfl, rfl, rfl, trivial⟩ ?_ ?_
     ·intro b14 H
      refine RD.nil (hK13 _ _ ?_)
      refine T.joinE (σ := Int) (γ := Unit) H (fun s => s) [(1, _), (3, _), (5, _)] ⟨rfl, rfl, rfl, trivial⟩ (fun v16 _ => [(4, .int .i64 v16)]) (fun v16 _ => Sat w [blk b1 [.int .i64 a0_p.g.w, .int .i64 a0_p.g.h, .slice p0 a0_p.g.tiles.length c0, .slice p1 a0_p.l.length c1, .int .i64 a0_p.cls, .int .i64 a0_p.size, .slice p2 a0_p.ts.length c2] 56]) ?_ ?_
      ·rintro v16 ⟨⟩ H
       try dsimp only [Ex.then] at H
       refine Cont.conseq (fr' := [(4, _), (1, _), (3, _), (5, _)]) ?_ ⟨rfl, rfl, rfl, rfl, trivial⟩ (fun _ s => s)
       refine id (hK12 _ _ ?_)
       refine T.seq fun K14 hK14 => ?_
       refine T.seq fun K15 hK15 => ?_
       refine T.region ?_
       refine RS.p (Pu.move rfl) rfl rfl ?_
       refine RS.p (Pu.bin rfl rfl rfl) rfl rfl ?_
       refine RS.nil (hK15 _ _ ?_)
       refine T.joinE (σ := List Int) (γ := (Option Nat × Nat)) H (fun s => s) [(1, _), (3, _), (4, _)] ⟨rfl, rfl, rfl, trivial⟩ (fun v18 q19 => [(5, rowV q19 v18.length)]) (fun v18 q19 => Sat w [blk b1 [.int .i64 a0_p.g.w, .int .i64 a0_p.g.h, .slice p0 a0_p.g.tiles.length c0, .slice p1 a0_p.l.length c1, .int .i64 a0_p.cls, .int .i64 a0_p.size, .slice p2 a0_p.ts.length c2] 56, row nilH 3 (rowV q19 v18.length) v18]) ?_ ?_
       ·rintro v18 q19 H
        try dsimp only [Ex.then] at H
        refine Cont.conseq (fr' := [(5, _), (1, _), (3, _), (4, _)]) ?_ ⟨rfl, rfl, rfl, rfl, trivial⟩ (fun _ s => s)
        refine id (hK14 _ _ ?_)
        refine T.seq fun K16 hK16 => ?_
        refine T.drawn (fun _ => True) [(0, .pu), (1, .rd), (2, .pu), (3, .rd), (4, .pu), (5, .rd), (6, .pu), (7, .rd), (8, .pu), (9, .rd), (10, .pu), (11, .pu), (12, .rd), (13, .so), (14, .pu), (15, .pu), (16, .pu), (17, .pu), (18, .pu)] mixed (ClE.sat _ _) (by kernel_rfl) ?_
        refine RD.p (fun _ _ => trivial) rfl (Pu.fieldAddr fd56_0 rfl) rfl rfl ?_
        refine RD.q (fun _ _ => trivial) rfl (Qt.ldBA (us := [_, _, _]) 0 ty24 rfl rfl rfl rfl) rfl rfl ?_
        refine RD.p (fun _ _ => trivial) rfl (Pu.fieldAddr fd56_1 rfl) rfl rfl ?_
        refine RD.q (fun _ _ => trivial) rfl (Qt.ldB 0 ty25 rfl rfl rfl) rfl rfl ?_
        refine RD.p (fun _ _ => trivial) rfl (Pu.fieldAddr fd56_2 rfl) rfl rfl ?_
        refine RD.q (fun _ _ => trivial) rfl (Qt.ldB 0 ty3 rfl rfl rfl) rfl rfl ?_
        refine RD.p (fun _ _ => trivial) rfl (Pu.fieldAddr fd56_3 rfl) rfl rfl ?_
        refine RD.q (fun _ _ => trivial) rfl (Qt.ldB 0 ty3 rfl rfl rfl) rfl rfl ?_
        refine RD.p (fun _ _ => trivial) rfl (Pu.fieldAddr fd56_4 rfl) rfl rfl ?_
        refine RD.q (fun _ _ => trivial) rfl (Qt.ldB 0 ty26 rfl rfl rfl) rfl rfl ?_
        refine RD.p (fun _ _ => trivial) rfl (Pu.move rfl) rfl rfl ?_
        obtain ⟨g20, H⟩ := gdE H
        obtain ⟨bl21, ol22, rfl⟩ := R_ptr h2 (ne_of_pos (pos_of g20))
        refine RD.p (fun _ _ => trivial) rfl (Pu.indexSl sl26 rfl rfl g20) rfl rfl ?_
        refine RD.q (fun _ _ => trivial) rfl (Qt.ld0 (α := Int) (Rd.base h2) ty3 rfl rfl g20 (by rintro _ _ rfl; rfl)) rfl rfl ?_
        obtain ⟨x23, hx23, H⟩ := bindE H
        refine RD.solid rfl (.inl rfl) rfl rfl (Sd.callN (vs := [.agg #[.int .i64 a0_p.g.w, .int .i64 a0_p.g.h, .slice p0 a0_p.g.tiles.length c0], .slice p1 a0_p.l.length c1, .int .i64 a0_p.cls, .int .i64 a0_p.size, .int .i64 (gi a0_p.ts v6)]) ent50 rfl (fun w s => field_Dirs_walk a0_p.g a0_p.l a0_p.cls a0_p.size (gi a0_p.ts v6) w ((Rd.base h0) w s) ((Rd.base h1) w s) hx23)) (fun _ => ClE.sat _ _) (fun _ _ _ => trivial) (fun _ _ _ s => s.drop1) fun q24 => ?_
        refine RD.p (fun _ _ => trivial) rfl (Pu.move rfl) rfl rfl ?_
        refine RD.p (fun _ _ => trivial) rfl (Pu.extract rfl rfl) rfl rfl ?_
        refine RD.p (fun _ _ => trivial) rfl (Pu.extract rfl rfl) rfl rfl ?_
        refine RD.p (fun _ _ => trivial) rfl (Pu.assign rfl) rfl rfl ?_
        refine RD.p (fun _ _ => trivial) rfl (Pu.assign rfl) rfl rfl ?_
        refine RD.nil (hK16 _ _ (T.conseq (fr' := [(1, _), (3, _), (4, _), (5, _), (6, _), (7, _)]) ?_ ⟨rfl, rfl, rfl, rfl, rfl, rfl, trivial⟩ (fun _ s => s)))
        refine T.seq fun K17 hK17 => ?_
        refine T.seq fun K18 hK18 => ?_
        refine T.region ?_
        refine RS.p (Pu.move rfl) rfl rfl ?_
        obtain ⟨x25, hx25, H⟩ := bindE H
        refine RS.q (Qt.call (vs := [.int .i64 x23.2]) ent40 rfl fun w s => thronglaw13_num_walk x23.2 w  hx25) rfl rfl ?_
        refine RS.p (Pu.move rfl) rfl rfl ?_
        refine RS.p (Pu.bin rfl rfl rfl) rfl rfl ?_
        refine RS.p (Pu.move rfl) rfl rfl ?_
        refine RS.joinB H 5 78 (fun b28 => .bool b28) [(1, _), (3, _), (6, _)] ⟨rfl, rfl, rfl, trivial⟩ ?_ ?_
        ·intro b28 H
         refine RS.nil (hK18 _ _ ?_)
         refine T.cond rfl (fun hc29 => ?_) (fun hc29 => ?_)
         ·have H := ifT hc29 H
          refine T.conseq (fr' := []) ?_ trivial (fun _ s => s)
          refine T.seq fun K19 hK19 => ?_
          refine T.region ?_
          refine RS.p (Pu.assign rfl) rfl rfl ?_
          refine RS.nil (hK19 _ _ ?_)
          obtain rfl := hd4 _ H
          have H := HX4
          obtain rfl := Option.some.inj H
          refine T.retTo (by with_reducible ((repeat (first | apply RetTo.seq | apply RetTo.blk)); exact RetTo.refl _)) (Cont.ret1 rfl rfl fun w' s => ?_)
          exact ⟨rfl, s.ext⟩
         ·have H := ifB hc29 H
          refine T.skip (hK17 _ _ ?_)
          refine T.region ?_
          refine RS.p (Pu.move rfl) rfl rfl ?_
          obtain ⟨x30, hx30, H⟩ := bindE H
          refine RS.solid (Sd.callF0 (vs := [rowV q24 x23.1.length]) (C' := dead) (v := .tuple #[]) 2 ent43 rfl rfl (fun w s => thronglaw0_Numbers_walk x23.1 rfl  hx30 w s)) rfl rfl fun _ => ?_
          refine RS.nil (hK10 _ _ (T.conseq (fr' := [(1, _), (3, _)]) ?_ ⟨rfl, rfl, trivial⟩ (fun _ s => s)))
          refine T.region ?_
          refine RS.p (Pu.move rfl) rfl rfl ?_
          obtain ⟨g31, H⟩ := gdE H
          refine RS.p (Pu.addS rfl rfl g31) rfl rfl ?_
          refine RS.p (Pu.assign rfl) rfl rfl ?_
          refine RS.nil (hL4 _ _ (v6 + 1) () H ⟨rfl, trivial⟩ ⟨rfl, trivial⟩ (fun w s => s.pick [0] (by decide) rfl))
        ·intro z32 H hJ27
         refine RS.splitP 73 rfl (fun hc26 => ?_) (fun hc26 => ?_)
         ·have H := ifT hc26 H
          refine RS.no rfl rfl ?_
          refine RS.no rfl rfl ?_
          refine RS.no rfl rfl ?_
          refine RS.no rfl rfl ?_
          refine RS.p (Pu.pickT rfl rfl) rfl rfl ?_
          obtain rfl := Option.some.inj H
          exact hJ27 _ _ ⟨rfl, rfl, rfl, rfl, trivial⟩ (fun w s => s)
         ·have H := ifF hc26 H
          refine RS.p (Pu.move rfl) rfl rfl ?_
          refine RS.p (Pu.move rfl) rfl rfl ?_
          obtain ⟨x33, hx33, H⟩ := bindE H
          refine RS.q (Qt.call (vs := [rowV q24 x23.1.length, rowV q19 v18.length]) ent41 rfl fun w s => throngref0_EqNumbers_walk x23.1 v18 w ((Rd.ofRowN 2 rfl) w s) ((Rd.ofRowN 1 rfl) w s) hx33) rfl rfl ?_
          refine RS.p (Pu.not rfl) rfl rfl ?_
          refine RS.p (Pu.pickF rfl rfl) rfl rfl ?_
          obtain rfl := Option.some.inj H
          exact hJ27 _ _ ⟨rfl, rfl, rfl, rfl, trivial⟩ (fun w s => s)
       ·intro z17 H HX17 hJ17
        refine T.condP rfl (fun hc34 => ?_) (fun hc34 => ?_)
        ·have H := ifT hc34 H
         refine T.conseq (fr' := [(1, _), (3, _), (4, _)]) ?_ ⟨rfl, rfl, rfl, trivial⟩ (fun _ s => s)
         refine T.drawn (fun _ => True) [(0, .pu), (1, .rd), (2, .pu), (3, .rd), (4, .pu), (5, .rd), (6, .pu), (7, .rd), (8, .pu), (9, .rd), (10, .pu), (11, .pu), (12, .rd), (13, .so), (14, .pu)] mixed (ClE.sat _ _) (by kernel_rfl) ?_
         refine RD.p (fun _ _ => trivial) rfl (Pu.fieldAddr fd56_0 rfl) rfl rfl ?_
         refine RD.q (fun _ _ => trivial) rfl (Qt.ldBA (us := [_, _, _]) 0 ty24 rfl rfl rfl rfl) rfl rfl ?_
         refine RD.p (fun _ _ => trivial) rfl (Pu.fieldAddr fd56_1 rfl) rfl rfl ?_
         refine RD.q (fun _ _ => trivial) rfl (Qt.ldB 0 ty25 rfl rfl rfl) rfl rfl ?_
         refine RD.p (fun _ _ => trivial) rfl (Pu.fieldAddr fd56_2 rfl) rfl rfl ?_
         refine RD.q (fun _ _ => trivial) rfl (Qt.ldB 0 ty3 rfl rfl rfl) rfl rfl ?_
         refine RD.p (fun _ _ => trivial) rfl (Pu.fieldAddr fd56_3 rfl) rfl rfl ?_
         refine RD.q (fun _ _ => trivial) rfl (Qt.ldB 0 ty3 rfl rfl rfl) rfl rfl ?_
         refine RD.p (fun _ _ => trivial) rfl (Pu.fieldAddr fd56_4 rfl) rfl rfl ?_
         refine RD.q (fun _ _ => trivial) rfl (Qt.ldB 0 ty26 rfl rfl rfl) rfl rfl ?_
         refine RD.p (fun _ _ => trivial) rfl (Pu.move rfl) rfl rfl ?_
         obtain ⟨g35, H⟩ := gdE H
         obtain ⟨bl36, ol37, rfl⟩ := R_ptr h2 (ne_of_pos (pos_of g35))
         refine RD.p (fun _ _ => trivial) rfl (Pu.indexSl sl26 rfl rfl g35) rfl rfl ?_
         refine RD.q (fun _ _ => trivial) rfl (Qt.ld0 (α := Int) (Rd.base h2) ty3 rfl rfl g35 (by rintro _ _ rfl; rfl)) rfl rfl ?_
         obtain ⟨x38, hx38, H⟩ := bindE H
         refine RD.solid rfl (.inl rfl) rfl rfl (Sd.callN (vs := [.agg #[.int .i64 a0_p.g.w, .int .i64 a0_p.g.h, .slice p0 a0_p.g.tiles.length c0], .slice p1 a0_p.l.length c1, .int .i64 a0_p.cls, .int .i64 a0_p.size, .int .i64 (gi a0_p.ts v6)]) ent49 rfl (fun w s => throngref13_Dirs_walk a0_p.g a0_p.l a0_p.cls a0_p.size (gi a0_p.ts v6) w ((Rd.base h0) w s) ((Rd.base h1) w s) hx38)) (fun _ => ClE.sat _ _) (fun _ _ _ => trivial) (fun _ _ _ s => s.drop1) fun q39 => ?_
         refine RD.p (fun _ _ => trivial) rfl (Pu.assign rfl) rfl rfl ?_
         obtain rfl := Option.some.inj H
         refine RD.nil (hJ17 _ _ x38 q39 HX17 ⟨rfl, rfl, rfl, trivial⟩ ⟨rfl, trivial⟩ (fun w s => s))
        ·have H := ifF hc34 H
         obtain rfl := Option.some.inj H
         refine T.skip (hJ17 _ _ [] (none, 0) HX17 ⟨rfl, rfl, rfl, trivial⟩ ⟨rfl, trivial⟩ (fun w s => (s.nilRow (α := Int) 3).pick [0, 1] (by decide) rfl))
      ·intro z15 H HX15 hJ15
       refine T.cond rfl (fun hc40 => ?_) (fun hc40 => ?_)
       ·have H := ifT hc40 H
        refine T.region ?_
        refine RS.p (Pu.assign rfl) rfl rfl ?_
        obtain rfl := Option.some.inj H
        refine RS.nil (hJ15 _ _ 3 () HX15 ⟨rfl, rfl, rfl, trivial⟩ ⟨rfl, trivial⟩ (fun w s => s))
       ·have H := ifB hc40 H
        obtain rfl := Option.some.inj H
        refine T.skip (hJ15 _ _ x11 () HX15 ⟨rfl, rfl, rfl, trivial⟩ ⟨rfl, trivial⟩ (fun w s => s))
     ·intro z41 H hJ13
      refine RD.splitP 25 rfl (fun hc12 => ?_) (fun hc12 => ?_)
      ·have H := ifT hc12 H
       refine RD.p (fun _ _ => trivial) rfl (Pu.fieldAddr fd56_0 rfl) rfl rfl ?_
       refine RD.q (fun _ _ => trivial) rfl (Qt.ldBA (us := [_, _, _]) 0 ty24 rfl rfl rfl rfl) rfl rfl ?_
       refine RD.p (fun _ _ => trivial) rfl (Pu.fieldAddr fd56_4 rfl) rfl rfl ?_
       refine RD.q (fun _ _ => trivial) rfl (Qt.ldB 0 ty26 rfl rfl rfl) rfl rfl ?_
       refine RD.p (fun _ _ => trivial) rfl (Pu.move rfl) rfl rfl ?_
       obtain ⟨g42, H⟩ := gdE H
       obtain ⟨bl43, ol44, rfl⟩ := R_ptr h2 (ne_of_pos (pos_of g42))
       refine RD.p (fun _ _ => trivial) rfl (Pu.indexSl sl26 rfl rfl g42) rfl rfl ?_
       refine RD.q (fun _ _ => trivial) rfl (Qt.ld0 (α := Int) (Rd.base h2) ty3 rfl rfl g42 (by rintro _ _ rfl; rfl)) rfl rfl ?_
       obtain ⟨x45, hx45, H⟩ := bindE H
       refine RD.q (fun _ _ => trivial) rfl (Qt.call (vs := [.agg #[.int .i64 a0_p.g.w, .int .i64 a0_p.g.h, .slice p0 a0_p.g.tiles.length c0], .int .i64 (gi a0_p.ts v6)]) ent36 rfl fun w s => throngref5_Tile_walk a0_p.g (gi a0_p.ts v6) w ((Rd.base h0) w s) hx45) rfl rfl ?_
       refine RD.p (fun _ _ => trivial) rfl (Pu.not rfl) rfl rfl ?_
       refine RD.p (fun _ _ => trivial) rfl (Pu.pickT rfl rfl) rfl rfl ?_
       obtain rfl := Option.some.inj H
       exact hJ13 _ ⟨rfl, rfl, rfl, rfl, rfl, trivial⟩
      ·have H := ifF hc12 H
       refine RD.no (fun _ _ => trivial) rfl rfl rfl (.inl rfl) ?_
       refine RD.no (fun _ _ => trivial) rfl rfl rfl (.inr (.inr rfl)) ?_
       refine RD.no (fun _ _ => trivial) rfl rfl rfl (.inl rfl) ?_
       refine RD.no (fun _ _ => trivial) rfl rfl rfl (.inr (.inr rfl)) ?_
       refine RD.no (fun _ _ => trivial) rfl rfl rfl (.inl rfl) ?_
       refine RD.no (fun _ _ => trivial) rfl rfl rfl (.inl rfl) ?_
       refine RD.no (fun _ _ => trivial) rfl rfl rfl (.inr (.inr rfl)) ?_
       refine RD.no (fun _ _ => trivial) rfl rfl rfl (.inr (.inr rfl)) ?_
       refine RD.no (fun _ _ => trivial) rfl rfl rfl (.inl rfl) ?_
       refine RD.p (fun _ _ => trivial) rfl (Pu.pickF rfl rfl) rfl rfl ?_
       obtain rfl := Option.some.inj H
       exact hJ13 _ ⟨rfl, rfl, rfl, rfl, rfl, trivial⟩
    ·have H := ifF hc10 H
     obtain rfl := hd4 _ H
     refine T.exitTo (by with_reducible (repeat (first | exact ExTo.here | exact ExTo.hereN | exact ExTo.deep (by repeat (first | exact NmTo.seq | apply NmTo.blk)) | apply ExTo.seq | refine ExTo.past (by decide) ?_))) (hJ4 _ _ () () HX4 trivial trivial (fun w s => s))
   ·intro hJ9
    refine RS.splitP 15 rfl (fun hc8 => ?_) (fun hc8 => ?_)
    ·refine RS.p (Pu.move rfl) rfl rfl ?_
     refine RS.p (Pu.bin rfl rfl rfl) rfl rfl ?_
     refine RS.p (Pu.pickT rfl rfl) rfl rfl ?_
     exact hJ9 _ _ ⟨dAndT hc8, rfl, rfl, trivial⟩ (fun w s => s)
    ·refine RS.no rfl rfl ?_
     refine RS.no rfl rfl ?_
     refine RS.p (Pu.pickF rfl rfl) rfl rfl ?_
     exact hJ9 _ _ ⟨dAndF hc8, rfl, rfl, trivial⟩ (fun w s => s)
end Go.Proofs.Ytgpjjcncdaelpaa
