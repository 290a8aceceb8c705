/-
  Walk of FieldSizes.
-/
import Derived.Test.YtdaopgoaghhbpaaRows
import Derived.Test.YtdaopgoaghhbpaaFK
import Derived.Test.YtdaopgoaghhbpaaFG6
set_option linter.unusedVariables false
set_option linter.unusedSimpArgs false
set_option maxRecDepth 20000
set_option maxHeartbeats 4000000
namespace Go.Proofs.Ytdaopgoaghhbpaa
open Go.Vg
open Enc (R)
theorem ent34 : Ent Try.prog 34 := ⟨_, _, Try.func34, by kernel_rfl, rfl⟩
theorem ent35 : Ent Try.prog 35 := ⟨_, _, Try.func35, by kernel_rfl, rfl⟩
theorem ent36 : Ent Try.prog 36 := ⟨_, _, Try.func36, by kernel_rfl, rfl⟩
theorem ent44 : Ent Try.prog 44 := ⟨_, _, Try.func44, by kernel_rfl, rfl⟩
theorem ent48 : Ent Try.prog 48 := ⟨_, _, Try.func48, by kernel_rfl, rfl⟩
theorem ty56 : tySz Try.prog 56 = some (7, true) := by kernel_rfl
theorem thronglaw13_FieldSizes_walk (a0_p : Ask13) (w : World) {v0 v1 v2 : Value} (h0 : R (hpOf w) a0_p.g.tiles [v0]) (h1 : R (hpOf w) a0_p.l [v1]) (h2 : R (hpOf w) a0_p.ts [v2]) {r : Bool} (H : thronglaw13_FieldSizes a0_p = some r) : Calls Try.prog 13 #[.agg #[.int .i64 a0_p.g.w, .int .i64 a0_p.g.h, v0, v1, .int .i64 a0_p.cls, .int .i64 a0_p.size, v2]] w fun e w' => e = .returned (.bool r) ∧ Ext w w' := by
  have hm0 := R_max h0
  obtain ⟨p0, c0, rfl⟩ := R_form h0
  have hm1 := R_max h1
  obtain ⟨p1, c1, rfl⟩ := R_form h1
  have hm2 := R_max h2
  obtain ⟨p2, c2, rfl⟩ := R_form h2
  unfold thronglaw13_FieldSizes at H
  refine T.enter (args := [_]) (S := Sat w []) Try.func13 rfl rfl (Sat.start w) ?_
  refine T.seq fun K1 hK1 => ?_
  refine T.region ?_
  refine RS.solid (Sd.box (cs := [_, _, _, _, _, _, _]) rfl rfl) rfl rfl fun b1 => ?_
  refine RS.p (Pu.assign rfl) rfl rfl ?_
  refine RS.nil (hK1 _ _ ?_)
  refine T.seq fun K2 hK2 => ?_
  refine T.seq fun K3 hK3 => ?_
  refine T.region ?_
  refine RS.q (Qt.ldBA (us := [_, _, _, _, _, _, _]) 0 ty56 rfl rfl rfl rfl) rfl rfl ?_
  obtain ⟨x2, hx2, H⟩ := bindE H
  refine RS.q (Qt.call (vs := [.agg #[.int .i64 a0_p.g.w, .int .i64 a0_p.g.h, .slice p0 a0_p.g.tiles.length c0, .slice p1 a0_p.l.length c1, .int .i64 a0_p.cls, .int .i64 a0_p.size, .slice p2 a0_p.ts.length c2]]) ent34 rfl fun w s => thronglaw13_Heavy_walk a0_p w ((Rd.base h0) w s) ((Rd.base h1) w s) ((Rd.base h2) w s) hx2) rfl rfl ?_
  refine RS.p (Pu.move rfl) rfl rfl ?_
  refine RS.joinB H 4 17 (fun b5 => .bool b5) [(1, _)] ⟨rfl, trivial⟩ ?_ ?_
  · intro b5 H
    refine RS.p (Pu.move rfl) rfl rfl ?_
    refine RS.joinV 4 22 (.bool (decide ((b5 = true) ∨ (a0_p.size = 0)))) [(1, _)] ⟨rfl, trivial⟩ ?_ ?_
    · refine RS.nil (hK3 _ _ ?_)
      refine T.condP rfl (fun hc8 => ?_) (fun hc8 => ?_)
      · have H := ifT hc8 H
        refine T.seq fun K4 hK4 => ?_
        refine T.region ?_
        refine RS.p (Pu.assign rfl) rfl rfl ?_
        refine RS.nil (hK4 _ _ ?_)
        obtain rfl := Option.some.inj H
        refine T.retTo (by with_reducible ((repeat (first | apply RetTo.seq | apply RetTo.blk)); exact RetTo.refl _)) (Cont.ret1 rfl rfl fun w' s => ?_)
        exact ⟨rfl, s.ext⟩
      · have H := ifF hc8 H
        refine T.skip (hK2 _ _ ?_)
        refine T.seq fun K5 hK5 => ?_
        refine T.seq fun K6 hK6 => ?_
        refine T.region ?_
        refine RS.p (Pu.assign rfl) rfl rfl ?_
        refine RS.nil (hK6 _ _ ?_)
        refine T.joinE (σ := Unit) (γ := Unit) H Ex.go [] trivial (fun _ _ => []) (fun _ _ => Sat w [blk b1 [.int .i64 a0_p.g.w, .int .i64 a0_p.g.h, .slice p0 a0_p.g.tiles.length c0, .slice p1 a0_p.l.length c1, .int .i64 a0_p.cls, .int .i64 a0_p.size, .slice p2 a0_p.ts.length c2] 56]) ?_ ?_
        · rintro ⟨⟩ ⟨⟩ H
          try dsimp only [Ex.then] at H
          refine Cont.conseq (fr' := []) ?_ trivial (fun _ s => s)
          refine id (hK5 _ _ ?_)
          refine T.seq fun K7 hK7 => ?_
          refine T.region ?_
          obtain ⟨x10, hx10, H⟩ := bindE H
          refine RS.q (Qt.call (vs := [.int .i64 8, .int .i64 8]) ent48 rfl fun w s => sector_Count_walk 8 8 w  hx10) rfl rfl ?_
          refine RS.p (Pu.move rfl) rfl rfl ?_
          refine RS.p (Pu.extract rfl rfl) rfl rfl ?_
          refine RS.p (Pu.extract rfl rfl) rfl rfl ?_
          refine RS.p (Pu.assign rfl) rfl rfl ?_
          refine RS.p (Pu.assign rfl) rfl rfl ?_
          refine RS.nil (hK7 _ _ (T.conseq (fr' := [(9, _), (10, _)]) ?_ ⟨rfl, rfl, trivial⟩ (fun _ s => s)))
          refine T.seq fun K8 hK8 => ?_
          refine T.region ?_
          refine RS.p (Pu.move rfl) rfl rfl ?_
          obtain ⟨x11, hx11, H⟩ := bindE H
          refine RS.q (Qt.call (vs := [.int .i64 x10.2]) ent40 rfl fun w s => thronglaw13_num_walk x10.2 w  hx11) rfl rfl ?_
          refine RS.p (Pu.bin rfl rfl rfl) rfl rfl ?_
          refine RS.p (Pu.move rfl) rfl rfl ?_
          refine RS.joinV 3 132 (.bool (decide ((x11 = 0) ∧ (x10.1 = 1)))) [] trivial ?_ ?_
          · refine RS.p (Pu.move rfl) rfl rfl ?_
            refine RS.joinB H 2 135 (fun b16 => .bool b16) [] trivial ?_ ?_
            · intro b16 H
              refine RS.p (Pu.assign rfl) rfl rfl ?_
              refine RS.nil (hK8 _ _ ?_)
              obtain rfl := Option.some.inj H
              refine T.retTo (by with_reducible ((repeat (first | apply RetTo.seq | apply RetTo.blk)); exact RetTo.refl _)) (Cont.ret1 rfl rfl fun w' s => ?_)
              exact ⟨rfl, s.ext⟩
            · intro z17 H hJ15
              refine RS.splitP 133 rfl (fun hc14 => ?_) (fun hc14 => ?_)
              · have H := ifT hc14 H
                obtain ⟨x18, hx18, H⟩ := bindE H
                refine RS.q (Qt.call (vs := []) ent44 rfl fun w s => thronglaw13_wakes_walk  w  hx18) rfl rfl ?_
                refine RS.p (Pu.pickT rfl rfl) rfl rfl ?_
                obtain rfl := Option.some.inj H
                exact hJ15 _ _ ⟨rfl, trivial⟩ (fun w s => s)
              · have H := ifF hc14 H
                refine RS.no rfl rfl ?_
                refine RS.p (Pu.pickF rfl rfl) rfl rfl ?_
                obtain rfl := Option.some.inj H
                exact hJ15 _ _ ⟨rfl, trivial⟩ (fun w s => s)
          · intro hJ13
            refine RS.splitP 129 rfl (fun hc12 => ?_) (fun hc12 => ?_)
            · refine RS.p (Pu.move rfl) rfl rfl ?_
              refine RS.p (Pu.bin rfl rfl rfl) rfl rfl ?_
              refine RS.p (Pu.pickT rfl rfl) rfl rfl ?_
              exact hJ13 _ _ ⟨dAndT hc12, trivial⟩ (fun w s => s)
            · refine RS.no rfl rfl ?_
              refine RS.no rfl rfl ?_
              refine RS.p (Pu.pickF rfl rfl) rfl rfl ?_
              exact hJ13 _ _ ⟨dAndF hc12, trivial⟩ (fun w s => s)
        · intro z9 hz9 HX9 hJ9
          refine T.block ?_
          refine T.loopA (γ := Unit) hz9 [(1, _)] (fun v19 _ => [(3, .int .i64 v19)]) (fun v19 _ => Sat w [blk b1 [.int .i64 a0_p.g.w, .int .i64 a0_p.g.h, .slice p0 a0_p.g.tiles.length c0, .slice p1 a0_p.l.length c1, .int .i64 a0_p.cls, .int .i64 a0_p.size, .slice p2 a0_p.ts.length c2] 56]) () ⟨rfl, trivial⟩ ⟨rfl, trivial⟩ (fun w s => s) ?_
          rintro v19 ⟨⟩ y20 H hd9 KL9 hL9
          try dsimp only [Ex.then] at H
          refine T.conseq (fr' := [(3, _), (1, _)]) ?_ ⟨rfl, rfl, trivial⟩ (fun _ s => s)
          refine T.seq fun K9 hK9 => ?_
          refine T.seq fun K10 hK10 => ?_
          refine T.region ?_
          refine RS.p (Pu.move rfl) rfl rfl ?_
          refine RS.p (Pu.fieldAddr fd56_4 rfl) rfl rfl ?_
          refine RS.q (Qt.ldB 0 ty26 rfl rfl rfl) rfl rfl ?_
          refine RS.p (Pu.lenSl sl26 rfl) rfl rfl ?_
          refine RS.p (Pu.bin rfl rfl rfl) rfl rfl ?_
          refine RS.p (Pu.move rfl) rfl rfl ?_
          refine RS.joinV 3 31 (.bool (decide ((v19 < (a0_p.ts.length : Int)) ∧ (v19 < 3)))) [(1, _), (3, _)] ⟨rfl, rfl, trivial⟩ ?_ ?_
          · refine RS.nil (hK10 _ _ ?_)
            refine T.condP rfl (fun hc23 => ?_) (fun hc23 => ?_)
            · have H := ifT hc23 H
              refine T.skip (hK9 _ _ ?_)
              refine T.seq fun K11 hK11 => ?_
              refine T.block ?_
              refine T.seq fun K12 hK12 => ?_
              refine T.seq fun K13 hK13 => ?_
              refine T.drawn (fun _ => True) [(0, .pu), (1, .rd), (2, .pu), (3, .rd), (4, .pu), (5, .pu), (6, .rd), (7, .rd), (8, .pu)] mixed (ClE.sat _ _) (by kernel_rfl) ?_
              refine RD.p (fun _ _ => trivial) rfl (Pu.fieldAddr fd56_0 rfl) rfl rfl ?_
              refine RD.q (fun _ _ => trivial) rfl (Qt.ldBA (us := [_, _, _]) 0 ty24 rfl rfl rfl rfl) rfl rfl ?_
              refine RD.p (fun _ _ => trivial) rfl (Pu.fieldAddr fd56_4 rfl) rfl rfl ?_
              refine RD.q (fun _ _ => trivial) rfl (Qt.ldB 0 ty26 rfl rfl rfl) rfl rfl ?_
              refine RD.p (fun _ _ => trivial) rfl (Pu.move rfl) rfl rfl ?_
              obtain ⟨g24, H⟩ := gdE H
              obtain ⟨bl25, ol26, rfl⟩ := R_ptr h2 (ne_of_pos (pos_of g24))
              refine RD.p (fun _ _ => trivial) rfl (Pu.indexSl sl26 rfl rfl g24) rfl rfl ?_
              refine RD.q (fun _ _ => trivial) rfl (Qt.ld0 (α := Int) (Rd.base h2) ty3 rfl rfl g24 (by rintro _ _ rfl; rfl)) rfl rfl ?_
              obtain ⟨x27, hx27, H⟩ := bindE H
              refine RD.q (fun _ _ => trivial) rfl (Qt.call (vs := [.agg #[.int .i64 a0_p.g.w, .int .i64 a0_p.g.h, .slice p0 a0_p.g.tiles.length c0], .int .i64 (gi a0_p.ts v19)]) ent36 rfl fun w s => throngref5_Tile_walk a0_p.g (gi a0_p.ts v19) w ((Rd.base h0) w s) hx27) rfl rfl ?_
              refine RD.p (fun _ _ => trivial) rfl (Pu.not rfl) rfl rfl ?_
              refine RD.nil (hK13 _ _ ?_)
              refine T.cond rfl (fun hc28 => ?_) (fun hc28 => ?_)
              · have H := ifT hc28 H
                refine T.exitTo (by with_reducible (repeat (first | exact ExTo.here | exact ExTo.hereN | exact ExTo.deep (by repeat (first | exact NmTo.seq | apply NmTo.blk)) | apply ExTo.seq | refine ExTo.past (by decide) ?_))) (hK11 _ _ (T.conseq (fr' := [(1, _), (3, _)]) ?_ ⟨rfl, rfl, trivial⟩ (fun _ s => s)))
                refine T.region ?_
                refine RS.p (Pu.move rfl) rfl rfl ?_
                obtain ⟨g29, H⟩ := gdE H
                refine RS.p (Pu.addS rfl rfl g29) rfl rfl ?_
                refine RS.p (Pu.assign rfl) rfl rfl ?_
                refine RS.nil (hL9 _ _ (v19 + 1) () H ⟨rfl, trivial⟩ ⟨rfl, trivial⟩ (fun w s => s))
              · have H := ifB hc28 H
                refine T.skip (hK12 _ _ (T.conseq (fr' := [(1, _), (3, _)]) ?_ ⟨rfl, rfl, trivial⟩ (fun _ s => s)))
                refine T.seq fun K14 hK14 => ?_
                refine T.drawn (fun _ => True) [(0, .pu), (1, .rd), (2, .pu), (3, .rd), (4, .pu), (5, .rd), (6, .pu), (7, .rd), (8, .pu), (9, .rd), (10, .pu), (11, .pu), (12, .rd), (13, .so), (14, .pu), (15, .pu), (16, .pu), (17, .pu), (18, .pu)] mixed (ClE.sat _ _) (by kernel_rfl) ?_
                refine RD.p (fun _ _ => trivial) rfl (Pu.fieldAddr fd56_0 rfl) rfl rfl ?_
                refine RD.q (fun _ _ => trivial) rfl (Qt.ldBA (us := [_, _, _]) 0 ty24 rfl rfl rfl rfl) rfl rfl ?_
                refine RD.p (fun _ _ => trivial) rfl (Pu.fieldAddr fd56_1 rfl) rfl rfl ?_
                refine RD.q (fun _ _ => trivial) rfl (Qt.ldB 0 ty25 rfl rfl rfl) rfl rfl ?_
                refine RD.p (fun _ _ => trivial) rfl (Pu.fieldAddr fd56_2 rfl) rfl rfl ?_
                refine RD.q (fun _ _ => trivial) rfl (Qt.ldB 0 ty3 rfl rfl rfl) rfl rfl ?_
                refine RD.p (fun _ _ => trivial) rfl (Pu.fieldAddr fd56_3 rfl) rfl rfl ?_
                refine RD.q (fun _ _ => trivial) rfl (Qt.ldB 0 ty3 rfl rfl rfl) rfl rfl ?_
                refine RD.p (fun _ _ => trivial) rfl (Pu.fieldAddr fd56_4 rfl) rfl rfl ?_
                refine RD.q (fun _ _ => trivial) rfl (Qt.ldB 0 ty26 rfl rfl rfl) rfl rfl ?_
                refine RD.p (fun _ _ => trivial) rfl (Pu.move rfl) rfl rfl ?_
                obtain ⟨g30, H⟩ := gdE H
                refine RD.p (fun _ _ => trivial) rfl (Pu.indexSl sl26 rfl rfl g30) rfl rfl ?_
                refine RD.q (fun _ _ => trivial) rfl (Qt.ld0 (α := Int) (Rd.base h2) ty3 rfl rfl g30 (by rintro _ _ rfl; rfl)) rfl rfl ?_
                obtain ⟨x31, hx31, H⟩ := bindE H
                refine RD.solid rfl (.inl rfl) rfl rfl (Sd.callN (vs := [.agg #[.int .i64 a0_p.g.w, .int .i64 a0_p.g.h, .slice p0 a0_p.g.tiles.length c0], .slice p1 a0_p.l.length c1, .int .i64 a0_p.cls, .int .i64 a0_p.size, .int .i64 (gi a0_p.ts v19)]) ent39 rfl (fun w s => field_Make_walk a0_p.g a0_p.l a0_p.cls a0_p.size (gi a0_p.ts v19) w ((Rd.base h0) w s) ((Rd.base h1) w s) hx31)) (fun _ => ClE.sat _ _) (fun _ _ _ => trivial) (fun _ _ _ s => s.drop1) fun q32 => ?_
                refine RD.p (fun _ _ => trivial) rfl (Pu.move rfl) rfl rfl ?_
                refine RD.p (fun _ _ => trivial) rfl (Pu.extract rfl rfl) rfl rfl ?_
                refine RD.p (fun _ _ => trivial) rfl (Pu.extract rfl rfl) rfl rfl ?_
                refine RD.p (fun _ _ => trivial) rfl (Pu.assign rfl) rfl rfl ?_
                refine RD.p (fun _ _ => trivial) rfl (Pu.assign rfl) rfl rfl ?_
                refine RD.nil (hK14 _ _ (T.conseq (fr' := [(1, _), (3, _), (4, _), (5, _)]) ?_ ⟨rfl, rfl, rfl, rfl, trivial⟩ (fun _ s => s)))
                refine T.seq fun K15 hK15 => ?_
                refine T.drawn (fun _ => True) [(0, .pu), (1, .rd), (2, .pu), (3, .rd), (4, .pu), (5, .rd), (6, .pu), (7, .rd), (8, .pu), (9, .pu), (10, .rd), (11, .pu), (12, .pu), (13, .rd), (14, .so), (15, .pu), (16, .pu), (17, .pu), (18, .pu), (19, .pu)] mixed (ClE.sat _ _) (by kernel_rfl) ?_
                refine RD.p (fun _ _ => trivial) rfl (Pu.fieldAddr fd56_0 rfl) rfl rfl ?_
                refine RD.q (fun _ _ => trivial) rfl (Qt.ldBA (us := [_, _, _]) 0 ty24 rfl rfl rfl rfl) rfl rfl ?_
                refine RD.p (fun _ _ => trivial) rfl (Pu.fieldAddr fd56_1 rfl) rfl rfl ?_
                refine RD.q (fun _ _ => trivial) rfl (Qt.ldB 0 ty25 rfl rfl rfl) rfl rfl ?_
                refine RD.p (fun _ _ => trivial) rfl (Pu.fieldAddr fd56_2 rfl) rfl rfl ?_
                refine RD.q (fun _ _ => trivial) rfl (Qt.ldB 0 ty3 rfl rfl rfl) rfl rfl ?_
                refine RD.p (fun _ _ => trivial) rfl (Pu.fieldAddr fd56_3 rfl) rfl rfl ?_
                refine RD.q (fun _ _ => trivial) rfl (Qt.ldB 0 ty3 rfl rfl rfl) rfl rfl ?_
                obtain ⟨g33, H⟩ := gdE H
                refine RD.p (fun _ _ => trivial) rfl (Pu.subS rfl rfl g33) rfl rfl ?_
                refine RD.p (fun _ _ => trivial) rfl (Pu.fieldAddr fd56_4 rfl) rfl rfl ?_
                refine RD.q (fun _ _ => trivial) rfl (Qt.ldB 0 ty26 rfl rfl rfl) rfl rfl ?_
                refine RD.p (fun _ _ => trivial) rfl (Pu.move rfl) rfl rfl ?_
                obtain ⟨g34, H⟩ := gdE H
                refine RD.p (fun _ _ => trivial) rfl (Pu.indexSl sl26 rfl rfl g34) rfl rfl ?_
                refine RD.q (fun _ _ => trivial) rfl (Qt.ld0 (α := Int) (Rd.base h2) ty3 rfl rfl g34 (by rintro _ _ rfl; rfl)) rfl rfl ?_
                obtain ⟨x35, hx35, H⟩ := bindE H
                refine RD.solid rfl (.inl rfl) rfl rfl (Sd.callN (vs := [.agg #[.int .i64 a0_p.g.w, .int .i64 a0_p.g.h, .slice p0 a0_p.g.tiles.length c0], .slice p1 a0_p.l.length c1, .int .i64 a0_p.cls, .int .i64 (a0_p.size - 1), .int .i64 (gi a0_p.ts v19)]) ent39 rfl (fun w s => field_Make_walk a0_p.g a0_p.l a0_p.cls (a0_p.size - 1) (gi a0_p.ts v19) w ((Rd.base h0) w s) ((Rd.base h1) w s) hx35)) (fun _ => ClE.sat _ _) (fun _ _ _ => trivial) (fun _ _ _ s => s.drop1) fun q36 => ?_
                refine RD.p (fun _ _ => trivial) rfl (Pu.move rfl) rfl rfl ?_
                refine RD.p (fun _ _ => trivial) rfl (Pu.extract rfl rfl) rfl rfl ?_
                refine RD.p (fun _ _ => trivial) rfl (Pu.extract rfl rfl) rfl rfl ?_
                refine RD.p (fun _ _ => trivial) rfl (Pu.assign rfl) rfl rfl ?_
                refine RD.p (fun _ _ => trivial) rfl (Pu.assign rfl) rfl rfl ?_
                refine RD.nil (hK15 _ _ (T.conseq (fr' := [(1, _), (3, _), (4, _), (5, _), (6, _), (7, _)]) ?_ ⟨rfl, rfl, rfl, rfl, rfl, rfl, trivial⟩ (fun _ s => s)))
                refine T.seq fun K16 hK16 => ?_
                refine T.seq fun K17 hK17 => ?_
                refine T.region ?_
                refine RS.p (Pu.move rfl) rfl rfl ?_
                obtain ⟨x37, hx37, H⟩ := bindE H
                refine RS.q (Qt.call (vs := [.int .i64 x31.2]) ent40 rfl fun w s => thronglaw13_num_walk x31.2 w  hx37) rfl rfl ?_
                refine RS.p (Pu.bin rfl rfl rfl) rfl rfl ?_
                refine RS.p (Pu.move rfl) rfl rfl ?_
                refine RS.joinB H 4 85 (fun b40 => .bool b40) [(1, _), (3, _), (4, _), (6, _)] ⟨rfl, rfl, rfl, rfl, trivial⟩ ?_ ?_
                · intro b40 H
                  refine RS.p (Pu.move rfl) rfl rfl ?_
                  refine RS.joinV 6 92 (.bool (decide ((b40 = true) ∨ (¬ (x31.1.length : Int) = (x35.1.length : Int))))) [(1, _), (3, _), (4, _), (6, _)] ⟨rfl, rfl, rfl, rfl, trivial⟩ ?_ ?_
                  · refine RS.nil (hK17 _ _ ?_)
                    refine T.condP rfl (fun hc43 => ?_) (fun hc43 => ?_)
                    · have H := ifT hc43 H
                      refine T.conseq (fr' := []) ?_ trivial (fun _ s => s)
                      refine T.seq fun K18 hK18 => ?_
                      refine T.region ?_
                      refine RS.p (Pu.assign rfl) rfl rfl ?_
                      refine RS.nil (hK18 _ _ ?_)
                      obtain rfl := hd9 _ H
                      have H := HX9
                      obtain rfl := Option.some.inj H
                      refine T.retTo (by with_reducible ((repeat (first | apply RetTo.seq | apply RetTo.blk)); exact RetTo.refl _)) (Cont.ret1 rfl rfl fun w' s => ?_)
                      exact ⟨rfl, s.ext⟩
                    · have H := ifF hc43 H
                      refine T.skip (hK16 _ _ ?_)
                      refine T.seq fun K19 hK19 => ?_
                      refine T.region ?_
                      refine RS.p (Pu.assign rfl) rfl rfl ?_
                      refine RS.nil (hK19 _ _ ?_)
                      refine T.joinE (σ := Unit) (γ := Unit) H Ex.go [(1, _), (3, _)] ⟨rfl, rfl, trivial⟩ (fun _ _ => []) (fun _ _ => Sat w [blk b1 [.int .i64 a0_p.g.w, .int .i64 a0_p.g.h, .slice p0 a0_p.g.tiles.length c0, .slice p1 a0_p.l.length c1, .int .i64 a0_p.cls, .int .i64 a0_p.size, .slice (some ⟨bl25, ol26, none⟩) a0_p.ts.length c2] 56, row nilH 3 (rowV q32 x31.1.length) x31.1, row nilH 3 (rowV q36 x35.1.length) x35.1]) ?_ ?_
                      · rintro ⟨⟩ ⟨⟩ H
                        try dsimp only [Ex.then] at H
                        refine Cont.conseq (fr' := [(1, _), (3, _)]) ?_ ⟨rfl, rfl, trivial⟩ (fun _ s => s)
                        refine id (hK11 _ _ ?_)
                        refine T.region ?_
                        refine RS.p (Pu.move rfl) rfl rfl ?_
                        obtain ⟨g45, H⟩ := gdE H
                        refine RS.p (Pu.addS rfl rfl g45) rfl rfl ?_
                        refine RS.p (Pu.assign rfl) rfl rfl ?_
                        refine RS.nil (hL9 _ _ (v19 + 1) () H ⟨rfl, trivial⟩ ⟨rfl, trivial⟩ (fun w s => s.pick [0] (by decide) rfl))
                      · intro z44 hz44 HX44 hJ44
                        refine T.block ?_
                        refine T.loopA (γ := Unit) hz44 [(1, _), (3, _), (4, _), (6, _)] (fun v46 _ => [(8, .int .i64 v46)]) (fun v46 _ => Sat w [blk b1 [.int .i64 a0_p.g.w, .int .i64 a0_p.g.h, .slice p0 a0_p.g.tiles.length c0, .slice p1 a0_p.l.length c1, .int .i64 a0_p.cls, .int .i64 a0_p.size, .slice (some ⟨bl25, ol26, none⟩) a0_p.ts.length c2] 56, row nilH 3 (rowV q32 x31.1.length) x31.1, row nilH 3 (rowV q36 x35.1.length) x35.1]) () ⟨rfl, rfl, rfl, rfl, trivial⟩ ⟨rfl, trivial⟩ (fun w s => s) ?_
                        rintro v46 ⟨⟩ y47 H hd44 KL44 hL44
                        try dsimp only [Ex.then] at H
                        refine T.conseq (fr' := [(8, _), (1, _), (3, _), (4, _), (6, _)]) ?_ ⟨rfl, rfl, rfl, rfl, rfl, trivial⟩ (fun _ s => s)
                        refine T.seq fun K20 hK20 => ?_
                        refine T.seq fun K21 hK21 => ?_
                        refine T.region ?_
                        refine RS.p (Pu.move rfl) rfl rfl ?_
                        refine RS.p (Pu.move rfl) rfl rfl ?_
                        refine RS.p (Pu.lenSl sl26 rfl) rfl rfl ?_
                        refine RS.p (Pu.bin rfl rfl rfl) rfl rfl ?_
                        refine RS.nil (hK21 _ _ ?_)
                        refine T.condP rfl (fun hc48 => ?_) (fun hc48 => ?_)
                        · have H := ifT hc48 H
                          refine T.skip (hK20 _ _ (T.conseq (fr' := [(1, _), (3, _), (4, _), (6, _), (8, _)]) ?_ ⟨rfl, rfl, rfl, rfl, rfl, trivial⟩ (fun _ s => s)))
                          refine T.seq fun K22 hK22 => ?_
                          refine T.block ?_
                          refine T.seq fun K23 hK23 => ?_
                          refine T.drawn (fun _ => True) [(0, .pu), (1, .pu), (2, .pu), (3, .rd), (4, .pu), (5, .pu), (6, .pu), (7, .pu), (8, .pu), (9, .rd), (10, .pu), (11, .pu), (12, .pu), (13, .pu), (14, .pu), (15, .rd), (16, .pu), (17, .pu), (18, .pu), (19, .rd), (20, .pu), (21, .pu), (22, .pu)] mixed (ClE.sat _ _) (by kernel_rfl) ?_
                          refine RD.p (fun _ _ => trivial) rfl (Pu.move rfl) rfl rfl ?_
                          refine RD.p (fun _ _ => trivial) rfl (Pu.move rfl) rfl rfl ?_
                          obtain ⟨g49, H⟩ := gdE H
                          refine RD.know (p := ∃ g cap, q32 = (some g, cap)) (fun w s => s.row_some (k := 1) rfl (pos_of g49)) ?_
                          rintro ⟨gg50, cc51, rfl⟩
                          refine RD.p (fun _ _ => trivial) rfl (Pu.indexSl sl26 rfl rfl g49) rfl rfl ?_
                          refine RD.q (fun _ _ => trivial) rfl (Qt.ld0 (α := Int) (Rd.ofRowN 1 rfl) ty3 rfl rfl g49 (by rintro _ _ rfl; rfl)) rfl rfl ?_
                          refine RD.p (fun _ _ => trivial) rfl (Pu.bin rfl rfl rfl) rfl rfl ?_
                          refine RD.p (fun _ _ => trivial) rfl (Pu.move rfl) rfl rfl ?_
                          obtain ⟨g54, H⟩ := gdE H
                          obtain ⟨g55, H⟩ := gdE H
                          obtain ⟨g56, H⟩ := gdE H
                          refine RD.joinV 17 121 (.bool (decide ((0 ≤ (gi x31.1 v46)) ∧ (((gi x35.1 v46) < 0) ∨ ((gi x31.1 v46) < (gi x35.1 v46)))))) [(1, _), (3, _), (4, _), (6, _), (8, _)] ⟨rfl, rfl, rfl, rfl, rfl, trivial⟩ ?_ ?_
                          · refine RD.nil (hK23 _ _ ?_)
                            refine T.condP rfl (fun hc57 => ?_) (fun hc57 => ?_)
                            · have H := ifT hc57 H
                              refine T.conseq (fr' := []) ?_ trivial (fun _ s => s)
                              refine T.seq fun K24 hK24 => ?_
                              refine T.region ?_
                              refine RS.p (Pu.assign rfl) rfl rfl ?_
                              refine RS.nil (hK24 _ _ ?_)
                              obtain rfl := hd44 _ H
                              have H := HX44
                              obtain rfl := hd9 _ H
                              have H := HX9
                              obtain rfl := Option.some.inj H
                              refine T.retTo (by with_reducible ((repeat (first | apply RetTo.seq | apply RetTo.blk)); exact RetTo.refl _)) (Cont.ret1 rfl rfl fun w' s => ?_)
                              exact ⟨rfl, s.ext⟩
                            · have H := ifF hc57 H
                              refine T.skip (hK22 _ _ ?_)
                              refine T.region ?_
                              refine RS.p (Pu.move rfl) rfl rfl ?_
                              obtain ⟨g58, H⟩ := gdE H
                              refine RS.p (Pu.addS rfl rfl g58) rfl rfl ?_
                              refine RS.p (Pu.assign rfl) rfl rfl ?_
                              refine RS.nil (hL44 _ _ (v46 + 1) () H ⟨rfl, rfl, rfl, rfl, trivial⟩ ⟨rfl, trivial⟩ (fun w s => s))
                          · intro hJ53
                            refine RD.splitP 104 rfl (fun hc52 => ?_) (fun hc52 => ?_)
                            · refine RD.p (fun _ _ => trivial) rfl (Pu.move rfl) rfl rfl ?_
                              refine RD.p (fun _ _ => trivial) rfl (Pu.move rfl) rfl rfl ?_
                              refine RD.know (p := ∃ g cap, q36 = (some g, cap)) (fun w s => s.row_some (k := 2) rfl (pos_of (g54 hc52))) ?_
                              rintro ⟨gg59, cc60, rfl⟩
                              refine RD.p (fun _ _ => trivial) rfl (Pu.indexSl sl26 rfl rfl (g54 hc52)) rfl rfl ?_
                              refine RD.q (fun _ _ => trivial) rfl (Qt.ld0 (α := Int) (Rd.ofRowN 2 rfl) ty3 rfl rfl (g54 hc52) (by rintro _ _ rfl; rfl)) rfl rfl ?_
                              refine RD.p (fun _ _ => trivial) rfl (Pu.bin rfl rfl rfl) rfl rfl ?_
                              refine RD.p (fun _ _ => trivial) rfl (Pu.move rfl) rfl rfl ?_
                              refine RD.joinV 10 120 (.bool (decide (((gi x35.1 v46) < 0) ∨ ((gi x31.1 v46) < (gi x35.1 v46))))) [(1, _), (3, _), (4, _), (6, _), (8, _), (99, _), (100, _), (101, _), (102, _), (103, _), (104, _), (105, _), (106, _), (107, _), (108, _), (109, _)] ⟨rfl, rfl, rfl, rfl, rfl, rfl, rfl, rfl, rfl, rfl, rfl, rfl, rfl, rfl, rfl, rfl, trivial⟩ ?_ ?_
                              · refine RD.p (fun _ _ => trivial) rfl (Pu.pickT rfl rfl) rfl rfl ?_
                                exact hJ53 _ ⟨dAndT hc52, rfl, rfl, rfl, rfl, rfl, trivial⟩
                              · intro hJ62
                                refine RD.splitP 110 rfl (fun hc61 => ?_) (fun hc61 => ?_)
                                · refine RD.no (fun _ _ => trivial) rfl rfl rfl (.inl rfl) ?_
                                  refine RD.no (fun _ _ => trivial) rfl rfl rfl (.inl rfl) ?_
                                  refine RD.no (fun _ _ => trivial) rfl rfl rfl (.inl rfl) ?_
                                  refine RD.no (fun _ _ => trivial) rfl rfl rfl (.inr (.inr rfl)) ?_
                                  refine RD.no (fun _ _ => trivial) rfl rfl rfl (.inl rfl) ?_
                                  refine RD.no (fun _ _ => trivial) rfl rfl rfl (.inl rfl) ?_
                                  refine RD.no (fun _ _ => trivial) rfl rfl rfl (.inl rfl) ?_
                                  refine RD.no (fun _ _ => trivial) rfl rfl rfl (.inr (.inr rfl)) ?_
                                  refine RD.no (fun _ _ => trivial) rfl rfl rfl (.inl rfl) ?_
                                  refine RD.p (fun _ _ => trivial) rfl (Pu.pickT rfl rfl) rfl rfl ?_
                                  exact hJ62 _ ⟨dOrT hc61, rfl, rfl, rfl, rfl, rfl, rfl, rfl, rfl, rfl, rfl, rfl, rfl, rfl, rfl, rfl, rfl, trivial⟩
                                · refine RD.p (fun _ _ => trivial) rfl (Pu.move rfl) rfl rfl ?_
                                  refine RD.p (fun _ _ => trivial) rfl (Pu.move rfl) rfl rfl ?_
                                  refine RD.p (fun _ _ => trivial) rfl (Pu.indexSl sl26 rfl rfl ((g55 hc52) hc61)) rfl rfl ?_
                                  refine RD.q (fun _ _ => trivial) rfl (Qt.ld0 (α := Int) (Rd.ofRowN 2 rfl) ty3 rfl rfl ((g55 hc52) hc61) (by rintro _ _ rfl; rfl)) rfl rfl ?_
                                  refine RD.p (fun _ _ => trivial) rfl (Pu.move rfl) rfl rfl ?_
                                  refine RD.p (fun _ _ => trivial) rfl (Pu.move rfl) rfl rfl ?_
                                  refine RD.p (fun _ _ => trivial) rfl (Pu.indexSl sl26 rfl rfl ((g56 hc52) hc61)) rfl rfl ?_
                                  refine RD.q (fun _ _ => trivial) rfl (Qt.ld0 (α := Int) (Rd.ofRowN 1 rfl) ty3 rfl rfl ((g56 hc52) hc61) (by rintro _ _ rfl; rfl)) rfl rfl ?_
                                  refine RD.p (fun _ _ => trivial) rfl (Pu.bin rfl rfl rfl) rfl rfl ?_
                                  refine RD.p (fun _ _ => trivial) rfl (Pu.pickF rfl rfl) rfl rfl ?_
                                  exact hJ62 _ ⟨dOrF hc61, rfl, rfl, rfl, rfl, rfl, rfl, rfl, rfl, rfl, rfl, rfl, rfl, rfl, rfl, rfl, rfl, trivial⟩
                            · refine RD.no (fun _ _ => trivial) rfl rfl rfl (.inl rfl) ?_
                              refine RD.no (fun _ _ => trivial) rfl rfl rfl (.inl rfl) ?_
                              refine RD.no (fun _ _ => trivial) rfl rfl rfl (.inl rfl) ?_
                              refine RD.no (fun _ _ => trivial) rfl rfl rfl (.inr (.inr rfl)) ?_
                              refine RD.no (fun _ _ => trivial) rfl rfl rfl (.inl rfl) ?_
                              refine RD.no (fun _ _ => trivial) rfl rfl rfl (.inl rfl) ?_
                              refine RD.no (fun _ _ => trivial) rfl rfl rfl (.inl rfl) ?_
                              refine RD.no (fun _ _ => trivial) rfl rfl rfl (.inl rfl) ?_
                              refine RD.no (fun _ _ => trivial) rfl rfl rfl (.inl rfl) ?_
                              refine RD.no (fun _ _ => trivial) rfl rfl rfl (.inr (.inr rfl)) ?_
                              refine RD.no (fun _ _ => trivial) rfl rfl rfl (.inl rfl) ?_
                              refine RD.no (fun _ _ => trivial) rfl rfl rfl (.inl rfl) ?_
                              refine RD.no (fun _ _ => trivial) rfl rfl rfl (.inl rfl) ?_
                              refine RD.no (fun _ _ => trivial) rfl rfl rfl (.inr (.inr rfl)) ?_
                              refine RD.no (fun _ _ => trivial) rfl rfl rfl (.inl rfl) ?_
                              refine RD.no (fun _ _ => trivial) rfl rfl rfl (.inl rfl) ?_
                              refine RD.p (fun _ _ => trivial) rfl (Pu.pickF rfl rfl) rfl rfl ?_
                              exact hJ53 _ ⟨dAndF hc52, rfl, rfl, rfl, rfl, rfl, trivial⟩
                        · have H := ifF hc48 H
                          obtain rfl := hd44 _ H
                          refine T.exitTo (by with_reducible (repeat (first | exact ExTo.here | exact ExTo.hereN | exact ExTo.deep (by repeat (first | exact NmTo.seq | apply NmTo.blk)) | apply ExTo.seq | refine ExTo.past (by decide) ?_))) (hJ44 _ _ () () HX44 ⟨rfl, rfl, trivial⟩ trivial (fun w s => s))
                  · intro hJ42
                    refine RS.split 86 rfl (fun hc41 => ?_) (fun hc41 => ?_)
                    · refine RS.no rfl rfl ?_
                      refine RS.no rfl rfl ?_
                      refine RS.no rfl rfl ?_
                      refine RS.no rfl rfl ?_
                      refine RS.no rfl rfl ?_
                      refine RS.p (Pu.pickT rfl rfl) rfl rfl ?_
                      exact hJ42 _ _ ⟨dOrT hc41, rfl, rfl, rfl, rfl, trivial⟩ (fun w s => s)
                    · refine RS.p (Pu.move rfl) rfl rfl ?_
                      refine RS.p (Pu.lenSl sl26 rfl) rfl rfl ?_
                      refine RS.p (Pu.move rfl) rfl rfl ?_
                      refine RS.p (Pu.lenSl sl26 rfl) rfl rfl ?_
                      refine RS.p (Pu.bin rfl rfl rfl) rfl rfl ?_
                      refine RS.p (Pu.pickF rfl rfl) rfl rfl ?_
                      exact hJ42 _ _ ⟨dOrF (bne_of hc41), rfl, rfl, rfl, rfl, trivial⟩ (fun w s => s)
                · intro z63 H hJ39
                  refine RS.splitP 81 rfl (fun hc38 => ?_) (fun hc38 => ?_)
                  · have H := ifT hc38 H
                    refine RS.no rfl rfl ?_
                    refine RS.no rfl rfl ?_
                    refine RS.no rfl rfl ?_
                    refine RS.p (Pu.pickT rfl rfl) rfl rfl ?_
                    obtain rfl := Option.some.inj H
                    exact hJ39 _ _ ⟨rfl, rfl, rfl, rfl, rfl, trivial⟩ (fun w s => s)
                  · have H := ifF hc38 H
                    refine RS.p (Pu.move rfl) rfl rfl ?_
                    obtain ⟨x64, hx64, H⟩ := bindE H
                    refine RS.q (Qt.call (vs := [.int .i64 x35.2]) ent40 rfl fun w s => thronglaw13_num_walk x35.2 w  hx64) rfl rfl ?_
                    refine RS.p (Pu.bin rfl rfl rfl) rfl rfl ?_
                    refine RS.p (Pu.pickF rfl rfl) rfl rfl ?_
                    obtain rfl := Option.some.inj H
                    exact hJ39 _ _ ⟨rfl, rfl, rfl, rfl, rfl, trivial⟩ (fun w s => s)
            · have H := ifF hc23 H
              obtain rfl := hd9 _ H
              refine T.exitTo (by with_reducible (repeat (first | exact ExTo.here | exact ExTo.hereN | exact ExTo.deep (by repeat (first | exact NmTo.seq | apply NmTo.blk)) | apply ExTo.seq | refine ExTo.past (by decide) ?_))) (hJ9 _ _ () () HX9 trivial trivial (fun w s => s))
          · intro hJ22
            refine RS.splitP 28 rfl (fun hc21 => ?_) (fun hc21 => ?_)
            · refine RS.p (Pu.move rfl) rfl rfl ?_
              refine RS.p (Pu.bin rfl rfl rfl) rfl rfl ?_
              refine RS.p (Pu.pickT rfl rfl) rfl rfl ?_
              exact hJ22 _ _ ⟨dAndT hc21, rfl, rfl, trivial⟩ (fun w s => s)
            · refine RS.no rfl rfl ?_
              refine RS.no rfl rfl ?_
              refine RS.p (Pu.pickF rfl rfl) rfl rfl ?_
              exact hJ22 _ _ ⟨dAndF hc21, rfl, rfl, trivial⟩ (fun w s => s)
    · intro hJ7
      refine RS.split 18 rfl (fun hc6 => ?_) (fun hc6 => ?_)
      · refine RS.no rfl rfl ?_
        refine RS.no rfl rfl ?_
        refine RS.no rfl rfl ?_
        refine RS.p (Pu.pickT rfl rfl) rfl rfl ?_
        exact hJ7 _ _ ⟨dOrT hc6, rfl, trivial⟩ (fun w s => s)
      · refine RS.p (Pu.fieldAddr fd56_3 rfl) rfl rfl ?_
        refine RS.q (Qt.ldB 0 ty3 rfl rfl rfl) rfl rfl ?_
        refine RS.p (Pu.bin rfl rfl rfl) rfl rfl ?_
        refine RS.p (Pu.pickF rfl rfl) rfl rfl ?_
        exact hJ7 _ _ ⟨dOrF (bne_of hc6), rfl, trivial⟩ (fun w s => s)
  · intro z65 H hJ4
    refine RS.split 13 rfl (fun hc3 => ?_) (fun hc3 => ?_)
    · have H := ifT hc3 H
      refine RS.no rfl rfl ?_
      refine RS.no rfl rfl ?_
      refine RS.no rfl rfl ?_
      refine RS.p (Pu.pickT rfl rfl) rfl rfl ?_
      obtain rfl := Option.some.inj H
      exact hJ4 _ _ ⟨rfl, rfl, trivial⟩ (fun w s => s)
    · have H := ifB hc3 H
      refine RS.q (Qt.ldBA (us := [_, _, _, _, _, _, _]) 0 ty56 rfl rfl rfl rfl) rfl rfl ?_
      obtain ⟨x66, hx66, H⟩ := bindE H
      refine RS.q (Qt.call (vs := [.agg #[.int .i64 a0_p.g.w, .int .i64 a0_p.g.h, .slice p0 a0_p.g.tiles.length c0, .slice p1 a0_p.l.length c1, .int .i64 a0_p.cls, .int .i64 a0_p.size, .slice p2 a0_p.ts.length c2]]) ent35 rfl fun w s => thronglaw13_form_walk a0_p w ((Rd.base h0) w s) ((Rd.base h1) w s) ((Rd.base h2) w s) hx66) rfl rfl ?_
      refine RS.p (Pu.bin rfl rfl rfl) rfl rfl ?_
      refine RS.p (Pu.pickF rfl rfl) rfl rfl ?_
      obtain rfl := Option.some.inj H
      exact hJ4 _ _ ⟨rfl, rfl, trivial⟩ (fun w s => s)
end Go.Proofs.Ytdaopgoaghhbpaa
