/-
  Walk of FieldRoads.
-/
import Derived.Test.YtdaopgoaghhbpaaRows
import Derived.Test.YtdaopgoaghhbpaaFK
import Derived.Test.YtdaopgoaghhbpaaFG8
set_option linter.unusedVariables false
set_option linter.unusedSimpArgs false
set_option maxRecDepth 20000
set_option maxHeartbeats 4000000
namespace Go.Proofs.Ytdaopgoaghhbpaa
open Go.Vg
open Enc (R)
theorem ent34 : Ent Try.prog 34 := ⟨_, _, Try.func34, by kernel_rfl, rfl⟩
theorem ent35 : Ent Try.prog 35 := ⟨_, _, Try.func35, by kernel_rfl, rfl⟩
theorem ent36 : Ent Try.prog 36 := ⟨_, _, Try.func36, by kernel_rfl, rfl⟩
theorem ent38 : Ent Try.prog 38 := ⟨_, _, Try.func38, by kernel_rfl, rfl⟩
theorem ent44 : Ent Try.prog 44 := ⟨_, _, Try.func44, by kernel_rfl, rfl⟩
theorem ty56 : tySz Try.prog 56 = some (7, true) := by kernel_rfl
theorem thronglaw13_FieldRoads_walk (a0_p : Ask13) (w : World) {v0 v1 v2 : Value} (h0 : R (hpOf w) a0_p.g.tiles [v0]) (h1 : R (hpOf w) a0_p.l [v1]) (h2 : R (hpOf w) a0_p.ts [v2]) {r : Bool} (H : thronglaw13_FieldRoads a0_p = some r) : Calls Try.prog 11 #[.agg #[.int .i64 a0_p.g.w, .int .i64 a0_p.g.h, v0, v1, .int .i64 a0_p.cls, .int .i64 a0_p.size, v2]] w fun e w' => e = .returned (.bool r) ∧ Ext w w' := by
  have hm0 := R_max h0
  obtain ⟨p0, c0, rfl⟩ := R_form h0
  have hm1 := R_max h1
  obtain ⟨p1, c1, rfl⟩ := R_form h1
  have hm2 := R_max h2
  obtain ⟨p2, c2, rfl⟩ := R_form h2
  unfold thronglaw13_FieldRoads at H
  refine T.enter (args := [_]) (S := Sat w []) Try.func11 rfl rfl (Sat.start w) ?_
  refine T.seq fun K1 hK1 => ?_
  refine T.region ?_
  refine RS.solid (Sd.box (cs := [_, _, _, _, _, _, _]) rfl rfl) rfl rfl fun b1 => ?_
  refine RS.p (Pu.assign rfl) rfl rfl ?_
  refine RS.nil (hK1 _ _ ?_)
  refine T.seq fun K2 hK2 => ?_
  refine T.seq fun K3 hK3 => ?_
  refine T.region ?_
  refine RS.q (Qt.ldBA (us := [_, _, _, _, _, _, _]) 0 ty56 rfl rfl rfl rfl) rfl rfl ?_
  obtain ⟨x2, hx2, H⟩ := bindE H
  refine RS.q (Qt.call (vs := [.agg #[.int .i64 a0_p.g.w, .int .i64 a0_p.g.h, .slice p0 a0_p.g.tiles.length c0, .slice p1 a0_p.l.length c1, .int .i64 a0_p.cls, .int .i64 a0_p.size, .slice p2 a0_p.ts.length c2]]) ent34 rfl fun w s => thronglaw13_Heavy_walk a0_p w ((Rd.base h0) w s) ((Rd.base h1) w s) ((Rd.base h2) w s) hx2) rfl rfl ?_
  refine RS.p (Pu.move rfl) rfl rfl ?_
  refine RS.joinB H 4 18 (fun b5 => .bool b5) [(1, _)] ⟨rfl, trivial⟩ ?_ ?_
  · intro b5 H
    refine RS.nil (hK3 _ _ ?_)
    refine T.cond rfl (fun hc6 => ?_) (fun hc6 => ?_)
    · have H := ifT hc6 H
      refine T.seq fun K4 hK4 => ?_
      refine T.region ?_
      refine RS.p (Pu.assign rfl) rfl rfl ?_
      refine RS.nil (hK4 _ _ ?_)
      obtain rfl := Option.some.inj H
      refine T.retTo (by with_reducible ((repeat (first | apply RetTo.seq | apply RetTo.blk)); exact RetTo.refl _)) (Cont.ret1 rfl rfl fun w' s => ?_)
      exact ⟨rfl, s.ext⟩
    · have H := ifB hc6 H
      refine T.skip (hK2 _ _ ?_)
      refine T.seq fun K5 hK5 => ?_
      refine T.seq fun K6 hK6 => ?_
      refine T.region ?_
      refine RS.p (Pu.assign rfl) rfl rfl ?_
      refine RS.nil (hK6 _ _ ?_)
      refine T.joinE (σ := Unit) (γ := Unit) H Ex.go [(1, _)] ⟨rfl, trivial⟩ (fun _ _ => []) (fun _ _ => Sat w [blk b1 [.int .i64 a0_p.g.w, .int .i64 a0_p.g.h, .slice p0 a0_p.g.tiles.length c0, .slice p1 a0_p.l.length c1, .int .i64 a0_p.cls, .int .i64 a0_p.size, .slice p2 a0_p.ts.length c2] 56]) ?_ ?_
      · rintro ⟨⟩ ⟨⟩ H
        try dsimp only [Ex.then] at H
        refine Cont.conseq (fr' := [(1, _)]) ?_ ⟨rfl, trivial⟩ (fun _ s => s)
        refine id (hK5 _ _ ?_)
        refine T.seq fun K7 hK7 => ?_
        refine T.region ?_
        refine RS.p (Pu.fieldAddr fd56_0 rfl) rfl rfl ?_
        refine RS.q (Qt.ldBA (us := [_, _, _]) 0 ty24 rfl rfl rfl rfl) rfl rfl ?_
        refine RS.p (Pu.fieldAddr fd56_1 rfl) rfl rfl ?_
        refine RS.q (Qt.ldB 0 ty25 rfl rfl rfl) rfl rfl ?_
        refine RS.p (Pu.fieldAddr fd56_2 rfl) rfl rfl ?_
        refine RS.q (Qt.ldB 0 ty3 rfl rfl rfl) rfl rfl ?_
        refine RS.p (Pu.fieldAddr fd56_3 rfl) rfl rfl ?_
        refine RS.q (Qt.ldB 0 ty3 rfl rfl rfl) rfl rfl ?_
        obtain ⟨x8, hx8, H⟩ := bindE H
        refine RS.q (Qt.call (vs := [.agg #[.int .i64 a0_p.g.w, .int .i64 a0_p.g.h, .slice p0 a0_p.g.tiles.length c0], .slice p1 a0_p.l.length c1, .int .i64 a0_p.cls, .int .i64 a0_p.size]) ent45 rfl fun w s => throngref13_May_walk a0_p.g a0_p.l a0_p.cls a0_p.size w ((Rd.base h0) w s) ((Rd.base h1) w s) hx8) rfl rfl ?_
        refine RS.p (Pu.move rfl) rfl rfl ?_
        refine RS.joinB H 2 141 (fun b11 => .bool b11) [] trivial ?_ ?_
        · intro b11 H
          refine RS.p (Pu.assign rfl) rfl rfl ?_
          refine RS.nil (hK7 _ _ ?_)
          obtain rfl := Option.some.inj H
          refine T.retTo (by with_reducible ((repeat (first | apply RetTo.seq | apply RetTo.blk)); exact RetTo.refl _)) (Cont.ret1 rfl rfl fun w' s => ?_)
          exact ⟨rfl, s.ext⟩
        · intro z12 H hJ10
          refine RS.split 139 rfl (fun hc9 => ?_) (fun hc9 => ?_)
          · have H := ifT hc9 H
            obtain ⟨x13, hx13, H⟩ := bindE H
            refine RS.q (Qt.call (vs := []) ent44 rfl fun w s => thronglaw13_wakes_walk  w  hx13) rfl rfl ?_
            refine RS.p (Pu.pickT rfl rfl) rfl rfl ?_
            obtain rfl := Option.some.inj H
            exact hJ10 _ _ ⟨rfl, trivial⟩ (fun w s => s)
          · have H := ifB hc9 H
            refine RS.no rfl rfl ?_
            refine RS.p (Pu.pickF rfl rfl) rfl rfl ?_
            obtain rfl := Option.some.inj H
            exact hJ10 _ _ ⟨rfl, trivial⟩ (fun w s => s)
      · intro z7 hz7 HX7 hJ7
        refine T.block ?_
        refine T.loopA (γ := Unit) hz7 [(1, _)] (fun v14 _ => [(3, .int .i64 v14)]) (fun v14 _ => Sat w [blk b1 [.int .i64 a0_p.g.w, .int .i64 a0_p.g.h, .slice p0 a0_p.g.tiles.length c0, .slice p1 a0_p.l.length c1, .int .i64 a0_p.cls, .int .i64 a0_p.size, .slice p2 a0_p.ts.length c2] 56]) () ⟨rfl, trivial⟩ ⟨rfl, trivial⟩ (fun w s => s) ?_
        rintro v14 ⟨⟩ y15 H hd7 KL7 hL7
        try dsimp only [Ex.then] at H
        refine T.conseq (fr' := [(3, _), (1, _)]) ?_ ⟨rfl, rfl, trivial⟩ (fun _ s => s)
        refine T.seq fun K8 hK8 => ?_
        refine T.seq fun K9 hK9 => ?_
        refine T.region ?_
        refine RS.p (Pu.move rfl) rfl rfl ?_
        obtain ⟨g16, H⟩ := gdE H
        refine RS.p (Pu.addS rfl rfl g16) rfl rfl ?_
        refine RS.p (Pu.fieldAddr fd56_4 rfl) rfl rfl ?_
        refine RS.q (Qt.ldB 0 ty26 rfl rfl rfl) rfl rfl ?_
        refine RS.p (Pu.lenSl sl26 rfl) rfl rfl ?_
        refine RS.p (Pu.bin rfl rfl rfl) rfl rfl ?_
        refine RS.p (Pu.move rfl) rfl rfl ?_
        refine RS.joinV 3 28 (.bool (decide (((v14 + 1) < (a0_p.ts.length : Int)) ∧ (v14 < 3)))) [(1, _), (3, _)] ⟨rfl, rfl, trivial⟩ ?_ ?_
        · refine RS.nil (hK9 _ _ ?_)
          refine T.condP rfl (fun hc19 => ?_) (fun hc19 => ?_)
          · have H := ifT hc19 H
            refine T.skip (hK8 _ _ ?_)
            refine T.seq fun K10 hK10 => ?_
            refine T.block ?_
            refine T.seq fun K11 hK11 => ?_
            refine T.drawn (fun _ => True) [(0, .pu), (1, .rd), (2, .pu), (3, .pu), (4, .rd), (5, .pu), (6, .rd), (7, .pu), (8, .pu), (9, .pu), (10, .rd), (11, .pu), (12, .pu)] mixed (ClE.sat _ _) (by kernel_rfl) ?_
            refine RD.p (fun _ _ => trivial) rfl (Pu.fieldAddr fd56_4 rfl) rfl rfl ?_
            refine RD.q (fun _ _ => trivial) rfl (Qt.ldB 0 ty26 rfl rfl rfl) rfl rfl ?_
            refine RD.p (fun _ _ => trivial) rfl (Pu.move rfl) rfl rfl ?_
            obtain ⟨g20, H⟩ := gdE H
            obtain ⟨bl21, ol22, rfl⟩ := R_ptr h2 (ne_of_pos (pos_of g20))
            refine RD.p (fun _ _ => trivial) rfl (Pu.indexSl sl26 rfl rfl g20) rfl rfl ?_
            refine RD.q (fun _ _ => trivial) rfl (Qt.ld0 (α := Int) (Rd.base h2) ty3 rfl rfl g20 (by rintro _ _ rfl; rfl)) rfl rfl ?_
            refine RD.p (fun _ _ => trivial) rfl (Pu.fieldAddr fd56_4 rfl) rfl rfl ?_
            refine RD.q (fun _ _ => trivial) rfl (Qt.ldB 0 ty26 rfl rfl rfl) rfl rfl ?_
            refine RD.p (fun _ _ => trivial) rfl (Pu.move rfl) rfl rfl ?_
            obtain ⟨g23, H⟩ := gdE H
            refine RD.p (fun _ _ => trivial) rfl (Pu.addS rfl rfl g23) rfl rfl ?_
            obtain ⟨g24, H⟩ := gdE H
            refine RD.p (fun _ _ => trivial) rfl (Pu.indexSl sl26 rfl rfl g24) rfl rfl ?_
            refine RD.q (fun _ _ => trivial) rfl (Qt.ld0 (α := Int) (Rd.base h2) ty3 rfl rfl g24 (by rintro _ _ rfl; rfl)) rfl rfl ?_
            refine RD.p (fun _ _ => trivial) rfl (Pu.assign rfl) rfl rfl ?_
            refine RD.p (fun _ _ => trivial) rfl (Pu.assign rfl) rfl rfl ?_
            refine RD.nil (hK11 _ _ (T.conseq (fr' := [(1, _), (3, _), (4, _), (5, _)]) ?_ ⟨rfl, rfl, rfl, rfl, trivial⟩ (fun _ s => s)))
            refine T.seq fun K12 hK12 => ?_
            refine T.seq fun K13 hK13 => ?_
            refine T.region ?_
            refine RS.p (Pu.fieldAddr fd56_0 rfl) rfl rfl ?_
            refine RS.q (Qt.ldBA (us := [_, _, _]) 0 ty24 rfl rfl rfl rfl) rfl rfl ?_
            refine RS.p (Pu.move rfl) rfl rfl ?_
            obtain ⟨x25, hx25, H⟩ := bindE H
            refine RS.q (Qt.call (vs := [.agg #[.int .i64 a0_p.g.w, .int .i64 a0_p.g.h, .slice p0 a0_p.g.tiles.length c0], .int .i64 (gi a0_p.ts v14)]) ent36 rfl fun w s => throngref5_Tile_walk a0_p.g (gi a0_p.ts v14) w ((Rd.base h0) w s) hx25) rfl rfl ?_
            refine RS.p (Pu.not rfl) rfl rfl ?_
            refine RS.p (Pu.move rfl) rfl rfl ?_
            refine RS.joinB H 6 53 (fun b28 => .bool b28) [(1, _), (3, _), (4, _), (5, _)] ⟨rfl, rfl, rfl, rfl, trivial⟩ ?_ ?_
            · intro b28 H
              refine RS.nil (hK13 _ _ ?_)
              refine T.cond rfl (fun hc29 => ?_) (fun hc29 => ?_)
              · have H := ifT hc29 H
                refine T.exitTo (by with_reducible (repeat (first | exact ExTo.here | exact ExTo.hereN | exact ExTo.deep (by repeat (first | exact NmTo.seq | apply NmTo.blk)) | apply ExTo.seq | refine ExTo.past (by decide) ?_))) (hK10 _ _ (T.conseq (fr' := [(1, _), (3, _)]) ?_ ⟨rfl, rfl, trivial⟩ (fun _ s => s)))
                refine T.region ?_
                refine RS.p (Pu.move rfl) rfl rfl ?_
                obtain ⟨g30, H⟩ := gdE H
                refine RS.p (Pu.addS rfl rfl g30) rfl rfl ?_
                refine RS.p (Pu.assign rfl) rfl rfl ?_
                refine RS.nil (hL7 _ _ (v14 + 1) () H ⟨rfl, trivial⟩ ⟨rfl, trivial⟩ (fun w s => s))
              · have H := ifB hc29 H
                refine T.skip (hK12 _ _ ?_)
                refine T.seq fun K14 hK14 => ?_
                refine T.region ?_
                refine RS.p (Pu.fieldAddr fd56_0 rfl) rfl rfl ?_
                refine RS.q (Qt.ldBA (us := [_, _, _]) 0 ty24 rfl rfl rfl rfl) rfl rfl ?_
                obtain ⟨x31, hx31, H⟩ := bindE H
                refine RS.solid (Sd.callN (vs := [.agg #[.int .i64 a0_p.g.w, .int .i64 a0_p.g.h, .slice p0 a0_p.g.tiles.length c0]]) ent38 rfl (fun w s => throngref0_CopyGround_walk a0_p.g w ((Rd.base h0) w s) hx31)) rfl rfl fun q32 => ?_
                refine RS.solid (Sd.alloc zr24 rfl) rfl rfl fun b33 => ?_
                refine RS.solid (Sd.stB (cs' := [_, _, _]) 2 ty24 rfl rfl rfl rfl rfl rfl rfl rfl) rfl rfl fun _ => ?_
                refine RS.nil (hK14 _ _ (T.conseq (fr' := [(1, _), (3, _), (4, _), (5, _), (6, _)]) ?_ ⟨rfl, rfl, rfl, rfl, rfl, trivial⟩ (fun _ s => s)))
                refine T.seq fun K15 hK15 => ?_
                refine T.region ?_
                refine RS.p (Pu.fieldAddr fd24_2 rfl) rfl rfl ?_
                refine RS.q (Qt.ldB 2 ty22 rfl rfl rfl) rfl rfl ?_
                refine RS.p (Pu.move rfl) rfl rfl ?_
                obtain ⟨g34, H⟩ := gdE H
                refine RS.know (p := ∃ g cap, q32 = (some g, cap)) (fun w s => s.row_some (k := 1) rfl (pos_of g34)) ?_
                rintro ⟨gg35, cc36, rfl⟩
                refine RS.p (Pu.indexSl sl22 rfl rfl g34) rfl rfl ?_
                refine RS.solid (Sd.st0 (α := UInt8) 1 (1 : UInt8) rfl ty5 rfl rfl rfl g34 rfl rfl (by decide) rfl (by rintro _ _ rfl; rfl)) rfl rfl fun _ => ?_
                refine RS.nil (hK15 _ _ (T.conseq (fr' := [(1, _), (3, _), (4, _), (6, _)]) ?_ ⟨rfl, rfl, rfl, rfl, trivial⟩ (fun _ s => s)))
                refine T.seq fun K16 hK16 => ?_
                refine T.region ?_
                refine RS.p (Pu.fieldAddr fd56_0 rfl) rfl rfl ?_
                refine RS.q (Qt.ldBA (us := [_, _, _]) 0 ty24 rfl rfl rfl rfl) rfl rfl ?_
                refine RS.p (Pu.fieldAddr fd56_1 rfl) rfl rfl ?_
                refine RS.q (Qt.ldB 0 ty25 rfl rfl rfl) rfl rfl ?_
                refine RS.p (Pu.fieldAddr fd56_2 rfl) rfl rfl ?_
                refine RS.q (Qt.ldB 0 ty3 rfl rfl rfl) rfl rfl ?_
                refine RS.p (Pu.fieldAddr fd56_3 rfl) rfl rfl ?_
                refine RS.q (Qt.ldB 0 ty3 rfl rfl rfl) rfl rfl ?_
                refine RS.p (Pu.move rfl) rfl rfl ?_
                obtain ⟨x37, hx37, H⟩ := bindE H
                refine RS.solid (Sd.callN (vs := [.agg #[.int .i64 a0_p.g.w, .int .i64 a0_p.g.h, .slice p0 a0_p.g.tiles.length c0], .slice p1 a0_p.l.length c1, .int .i64 a0_p.cls, .int .i64 a0_p.size, .int .i64 (gi a0_p.ts v14)]) ent39 rfl (fun w s => field_Make_walk a0_p.g a0_p.l a0_p.cls a0_p.size (gi a0_p.ts v14) w ((Rd.base h0) w s) ((Rd.base h1) w s) hx37)) rfl rfl fun q38 => ?_
                refine RS.p (Pu.move rfl) rfl rfl ?_
                refine RS.p (Pu.extract rfl rfl) rfl rfl ?_
                refine RS.p (Pu.extract rfl rfl) rfl rfl ?_
                refine RS.p (Pu.assign rfl) rfl rfl ?_
                refine RS.p (Pu.assign rfl) rfl rfl ?_
                refine RS.nil (hK16 _ _ (T.conseq (fr' := [(1, _), (3, _), (4, _), (6, _), (7, _), (8, _)]) ?_ ⟨rfl, rfl, rfl, rfl, rfl, rfl, trivial⟩ (fun _ s => s)))
                refine T.seq fun K17 hK17 => ?_
                refine T.region ?_
                refine RS.q (Qt.ldBA (us := [_, _, _]) 2 ty24 rfl rfl rfl rfl) rfl rfl ?_
                refine RS.p (Pu.fieldAddr fd56_1 rfl) rfl rfl ?_
                refine RS.q (Qt.ldB 0 ty25 rfl rfl rfl) rfl rfl ?_
                refine RS.p (Pu.fieldAddr fd56_2 rfl) rfl rfl ?_
                refine RS.q (Qt.ldB 0 ty3 rfl rfl rfl) rfl rfl ?_
                refine RS.p (Pu.fieldAddr fd56_3 rfl) rfl rfl ?_
                refine RS.q (Qt.ldB 0 ty3 rfl rfl rfl) rfl rfl ?_
                refine RS.p (Pu.move rfl) rfl rfl ?_
                obtain ⟨x39, hx39, H⟩ := bindE H
                refine RS.solid (Sd.callN (vs := [.agg #[.int .i64 x31.w, .int .i64 x31.h, rowV (some gg35, cc36) x31.tiles.length], .slice p1 a0_p.l.length c1, .int .i64 a0_p.cls, .int .i64 a0_p.size, .int .i64 (gi a0_p.ts v14)]) ent39 rfl (fun w s => field_Make_walk (⟨x31.w, x31.h, (si x31.tiles (gi a0_p.ts (v14 + 1)) (1 : UInt8))⟩ : Grd) a0_p.l a0_p.cls a0_p.size (gi a0_p.ts v14) w ((Rd.ofRowN 1 rfl) w s) ((Rd.base h1) w s) hx39)) rfl rfl fun q40 => ?_
                refine RS.p (Pu.move rfl) rfl rfl ?_
                refine RS.p (Pu.extract rfl rfl) rfl rfl ?_
                refine RS.p (Pu.extract rfl rfl) rfl rfl ?_
                refine RS.p (Pu.assign rfl) rfl rfl ?_
                refine RS.p (Pu.assign rfl) rfl rfl ?_
                refine RS.nil (hK17 _ _ (T.conseq (fr' := [(1, _), (3, _), (7, _), (8, _), (9, _), (10, _)]) ?_ ⟨rfl, rfl, rfl, rfl, rfl, rfl, trivial⟩ (fun _ s => s)))
                refine T.seq fun K18 hK18 => ?_
                refine T.seq fun K19 hK19 => ?_
                refine T.region ?_
                refine RS.p (Pu.move rfl) rfl rfl ?_
                obtain ⟨x41, hx41, H⟩ := bindE H
                refine RS.q (Qt.call (vs := [.int .i64 x37.2]) ent40 rfl fun w s => thronglaw13_num_walk x37.2 w  hx41) rfl rfl ?_
                refine RS.p (Pu.bin rfl rfl rfl) rfl rfl ?_
                refine RS.p (Pu.move rfl) rfl rfl ?_
                refine RS.joinB H 4 93 (fun b44 => .bool b44) [(1, _), (3, _), (7, _), (9, _)] ⟨rfl, rfl, rfl, rfl, trivial⟩ ?_ ?_
                · intro b44 H
                  refine RS.p (Pu.move rfl) rfl rfl ?_
                  refine RS.joinV 6 100 (.bool (decide ((b44 = true) ∨ (¬ (x37.1.length : Int) = (x39.1.length : Int))))) [(1, _), (3, _), (7, _), (9, _)] ⟨rfl, rfl, rfl, rfl, trivial⟩ ?_ ?_
                  · refine RS.nil (hK19 _ _ ?_)
                    refine T.condP rfl (fun hc47 => ?_) (fun hc47 => ?_)
                    · have H := ifT hc47 H
                      refine T.conseq (fr' := []) ?_ trivial (fun _ s => s)
                      refine T.seq fun K20 hK20 => ?_
                      refine T.region ?_
                      refine RS.p (Pu.assign rfl) rfl rfl ?_
                      refine RS.nil (hK20 _ _ ?_)
                      obtain rfl := hd7 _ H
                      have H := HX7
                      obtain rfl := Option.some.inj H
                      refine T.retTo (by with_reducible ((repeat (first | apply RetTo.seq | apply RetTo.blk)); exact RetTo.refl _)) (Cont.ret1 rfl rfl fun w' s => ?_)
                      exact ⟨rfl, s.ext⟩
                    · have H := ifF hc47 H
                      refine T.skip (hK18 _ _ ?_)
                      refine T.seq fun K21 hK21 => ?_
                      refine T.region ?_
                      refine RS.p (Pu.assign rfl) rfl rfl ?_
                      refine RS.nil (hK21 _ _ ?_)
                      refine T.joinE (σ := Unit) (γ := Unit) H Ex.go [(1, _), (3, _)] ⟨rfl, rfl, trivial⟩ (fun _ _ => []) (fun _ _ => Sat w [blk b1 [.int .i64 a0_p.g.w, .int .i64 a0_p.g.h, .slice p0 a0_p.g.tiles.length c0, .slice p1 a0_p.l.length c1, .int .i64 a0_p.cls, .int .i64 a0_p.size, .slice (some ⟨bl21, ol22, none⟩) a0_p.ts.length c2] 56, row nilH 5 (rowV (some gg35, cc36) x31.tiles.length) (si x31.tiles (gi a0_p.ts (v14 + 1)) (1 : UInt8)), blk b33 [.int .i64 x31.w, .int .i64 x31.h, rowV (some gg35, cc36) x31.tiles.length] 24, row nilH 3 (rowV q38 x37.1.length) x37.1, row nilH 3 (rowV q40 x39.1.length) x39.1]) ?_ ?_
                      · rintro ⟨⟩ ⟨⟩ H
                        try dsimp only [Ex.then] at H
                        refine Cont.conseq (fr' := [(1, _), (3, _)]) ?_ ⟨rfl, rfl, trivial⟩ (fun _ s => s)
                        refine id (hK10 _ _ ?_)
                        refine T.region ?_
                        refine RS.p (Pu.move rfl) rfl rfl ?_
                        obtain ⟨g49, H⟩ := gdE H
                        refine RS.p (Pu.addS rfl rfl g49) rfl rfl ?_
                        refine RS.p (Pu.assign rfl) rfl rfl ?_
                        refine RS.nil (hL7 _ _ (v14 + 1) () H ⟨rfl, trivial⟩ ⟨rfl, trivial⟩ (fun w s => s.pick [0] (by decide) rfl))
                      · intro z48 hz48 HX48 hJ48
                        refine T.block ?_
                        refine T.loopA (γ := Unit) hz48 [(1, _), (3, _), (7, _), (9, _)] (fun v50 _ => [(11, .int .i64 v50)]) (fun v50 _ => Sat w [blk b1 [.int .i64 a0_p.g.w, .int .i64 a0_p.g.h, .slice p0 a0_p.g.tiles.length c0, .slice p1 a0_p.l.length c1, .int .i64 a0_p.cls, .int .i64 a0_p.size, .slice (some ⟨bl21, ol22, none⟩) a0_p.ts.length c2] 56, row nilH 5 (rowV (some gg35, cc36) x31.tiles.length) (si x31.tiles (gi a0_p.ts (v14 + 1)) (1 : UInt8)), blk b33 [.int .i64 x31.w, .int .i64 x31.h, rowV (some gg35, cc36) x31.tiles.length] 24, row nilH 3 (rowV q38 x37.1.length) x37.1, row nilH 3 (rowV q40 x39.1.length) x39.1]) () ⟨rfl, rfl, rfl, rfl, trivial⟩ ⟨rfl, trivial⟩ (fun w s => s) ?_
                        rintro v50 ⟨⟩ y51 H hd48 KL48 hL48
                        try dsimp only [Ex.then] at H
                        refine T.conseq (fr' := [(11, _), (1, _), (3, _), (7, _), (9, _)]) ?_ ⟨rfl, rfl, rfl, rfl, rfl, trivial⟩ (fun _ s => s)
                        refine T.seq fun K22 hK22 => ?_
                        refine T.seq fun K23 hK23 => ?_
                        refine T.region ?_
                        refine RS.p (Pu.move rfl) rfl rfl ?_
                        refine RS.p (Pu.move rfl) rfl rfl ?_
                        refine RS.p (Pu.lenSl sl26 rfl) rfl rfl ?_
                        refine RS.p (Pu.bin rfl rfl rfl) rfl rfl ?_
                        refine RS.nil (hK23 _ _ ?_)
                        refine T.condP rfl (fun hc52 => ?_) (fun hc52 => ?_)
                        · have H := ifT hc52 H
                          refine T.skip (hK22 _ _ (T.conseq (fr' := [(1, _), (3, _), (7, _), (9, _), (11, _)]) ?_ ⟨rfl, rfl, rfl, rfl, rfl, trivial⟩ (fun _ s => s)))
                          refine T.seq fun K24 hK24 => ?_
                          refine T.block ?_
                          refine T.seq fun K25 hK25 => ?_
                          refine T.drawn (fun _ => True) [(0, .pu), (1, .pu), (2, .pu), (3, .rd), (4, .pu), (5, .pu), (6, .pu), (7, .pu), (8, .pu), (9, .rd), (10, .pu), (11, .pu), (12, .pu), (13, .pu), (14, .pu), (15, .rd), (16, .pu), (17, .pu), (18, .pu), (19, .rd), (20, .pu), (21, .pu), (22, .pu)] mixed (ClE.sat _ _) (by kernel_rfl) ?_
                          refine RD.p (fun _ _ => trivial) rfl (Pu.move rfl) rfl rfl ?_
                          refine RD.p (fun _ _ => trivial) rfl (Pu.move rfl) rfl rfl ?_
                          obtain ⟨g53, H⟩ := gdE H
                          refine RD.know (p := ∃ g cap, q38 = (some g, cap)) (fun w s => s.row_some (k := 3) rfl (pos_of g53)) ?_
                          rintro ⟨gg54, cc55, rfl⟩
                          refine RD.p (fun _ _ => trivial) rfl (Pu.indexSl sl26 rfl rfl g53) rfl rfl ?_
                          refine RD.q (fun _ _ => trivial) rfl (Qt.ld0 (α := Int) (Rd.ofRowN 3 rfl) ty3 rfl rfl g53 (by rintro _ _ rfl; rfl)) rfl rfl ?_
                          refine RD.p (fun _ _ => trivial) rfl (Pu.bin rfl rfl rfl) rfl rfl ?_
                          refine RD.p (fun _ _ => trivial) rfl (Pu.move rfl) rfl rfl ?_
                          obtain ⟨g58, H⟩ := gdE H
                          obtain ⟨g59, H⟩ := gdE H
                          obtain ⟨g60, H⟩ := gdE H
                          refine RD.joinV 17 129 (.bool (decide ((0 ≤ (gi x37.1 v50)) ∧ (((gi x39.1 v50) < 0) ∨ ((gi x37.1 v50) < (gi x39.1 v50)))))) [(1, _), (3, _), (7, _), (9, _), (11, _)] ⟨rfl, rfl, rfl, rfl, rfl, trivial⟩ ?_ ?_
                          · refine RD.nil (hK25 _ _ ?_)
                            refine T.condP rfl (fun hc61 => ?_) (fun hc61 => ?_)
                            · have H := ifT hc61 H
                              refine T.conseq (fr' := []) ?_ trivial (fun _ s => s)
                              refine T.seq fun K26 hK26 => ?_
                              refine T.region ?_
                              refine RS.p (Pu.assign rfl) rfl rfl ?_
                              refine RS.nil (hK26 _ _ ?_)
                              obtain rfl := hd48 _ H
                              have H := HX48
                              obtain rfl := hd7 _ H
                              have H := HX7
                              obtain rfl := Option.some.inj H
                              refine T.retTo (by with_reducible ((repeat (first | apply RetTo.seq | apply RetTo.blk)); exact RetTo.refl _)) (Cont.ret1 rfl rfl fun w' s => ?_)
                              exact ⟨rfl, s.ext⟩
                            · have H := ifF hc61 H
                              refine T.skip (hK24 _ _ ?_)
                              refine T.region ?_
                              refine RS.p (Pu.move rfl) rfl rfl ?_
                              obtain ⟨g62, H⟩ := gdE H
                              refine RS.p (Pu.addS rfl rfl g62) rfl rfl ?_
                              refine RS.p (Pu.assign rfl) rfl rfl ?_
                              refine RS.nil (hL48 _ _ (v50 + 1) () H ⟨rfl, rfl, rfl, rfl, trivial⟩ ⟨rfl, trivial⟩ (fun w s => s))
                          · intro hJ57
                            refine RD.splitP 112 rfl (fun hc56 => ?_) (fun hc56 => ?_)
                            · refine RD.p (fun _ _ => trivial) rfl (Pu.move rfl) rfl rfl ?_
                              refine RD.p (fun _ _ => trivial) rfl (Pu.move rfl) rfl rfl ?_
                              refine RD.know (p := ∃ g cap, q40 = (some g, cap)) (fun w s => s.row_some (k := 4) rfl (pos_of (g58 hc56))) ?_
                              rintro ⟨gg63, cc64, rfl⟩
                              refine RD.p (fun _ _ => trivial) rfl (Pu.indexSl sl26 rfl rfl (g58 hc56)) rfl rfl ?_
                              refine RD.q (fun _ _ => trivial) rfl (Qt.ld0 (α := Int) (Rd.ofRowN 4 rfl) ty3 rfl rfl (g58 hc56) (by rintro _ _ rfl; rfl)) rfl rfl ?_
                              refine RD.p (fun _ _ => trivial) rfl (Pu.bin rfl rfl rfl) rfl rfl ?_
                              refine RD.p (fun _ _ => trivial) rfl (Pu.move rfl) rfl rfl ?_
                              refine RD.joinV 10 128 (.bool (decide (((gi x39.1 v50) < 0) ∨ ((gi x37.1 v50) < (gi x39.1 v50))))) [(1, _), (3, _), (7, _), (9, _), (11, _), (107, _), (108, _), (109, _), (110, _), (111, _), (112, _), (113, _), (114, _), (115, _), (116, _), (117, _)] ⟨rfl, rfl, rfl, rfl, rfl, rfl, rfl, rfl, rfl, rfl, rfl, rfl, rfl, rfl, rfl, rfl, trivial⟩ ?_ ?_
                              · refine RD.p (fun _ _ => trivial) rfl (Pu.pickT rfl rfl) rfl rfl ?_
                                exact hJ57 _ ⟨dAndT hc56, rfl, rfl, rfl, rfl, rfl, trivial⟩
                              · intro hJ66
                                refine RD.splitP 118 rfl (fun hc65 => ?_) (fun hc65 => ?_)
                                · refine RD.no (fun _ _ => trivial) rfl rfl rfl (.inl rfl) ?_
                                  refine RD.no (fun _ _ => trivial) rfl rfl rfl (.inl rfl) ?_
                                  refine RD.no (fun _ _ => trivial) rfl rfl rfl (.inl rfl) ?_
                                  refine RD.no (fun _ _ => trivial) rfl rfl rfl (.inr (.inr rfl)) ?_
                                  refine RD.no (fun _ _ => trivial) rfl rfl rfl (.inl rfl) ?_
                                  refine RD.no (fun _ _ => trivial) rfl rfl rfl (.inl rfl) ?_
                                  refine RD.no (fun _ _ => trivial) rfl rfl rfl (.inl rfl) ?_
                                  refine RD.no (fun _ _ => trivial) rfl rfl rfl (.inr (.inr rfl)) ?_
                                  refine RD.no (fun _ _ => trivial) rfl rfl rfl (.inl rfl) ?_
                                  refine RD.p (fun _ _ => trivial) rfl (Pu.pickT rfl rfl) rfl rfl ?_
                                  exact hJ66 _ ⟨dOrT hc65, rfl, rfl, rfl, rfl, rfl, rfl, rfl, rfl, rfl, rfl, rfl, rfl, rfl, rfl, rfl, rfl, trivial⟩
                                · refine RD.p (fun _ _ => trivial) rfl (Pu.move rfl) rfl rfl ?_
                                  refine RD.p (fun _ _ => trivial) rfl (Pu.move rfl) rfl rfl ?_
                                  refine RD.p (fun _ _ => trivial) rfl (Pu.indexSl sl26 rfl rfl ((g59 hc56) hc65)) rfl rfl ?_
                                  refine RD.q (fun _ _ => trivial) rfl (Qt.ld0 (α := Int) (Rd.ofRowN 4 rfl) ty3 rfl rfl ((g59 hc56) hc65) (by rintro _ _ rfl; rfl)) rfl rfl ?_
                                  refine RD.p (fun _ _ => trivial) rfl (Pu.move rfl) rfl rfl ?_
                                  refine RD.p (fun _ _ => trivial) rfl (Pu.move rfl) rfl rfl ?_
                                  refine RD.p (fun _ _ => trivial) rfl (Pu.indexSl sl26 rfl rfl ((g60 hc56) hc65)) rfl rfl ?_
                                  refine RD.q (fun _ _ => trivial) rfl (Qt.ld0 (α := Int) (Rd.ofRowN 3 rfl) ty3 rfl rfl ((g60 hc56) hc65) (by rintro _ _ rfl; rfl)) rfl rfl ?_
                                  refine RD.p (fun _ _ => trivial) rfl (Pu.bin rfl rfl rfl) rfl rfl ?_
                                  refine RD.p (fun _ _ => trivial) rfl (Pu.pickF rfl rfl) rfl rfl ?_
                                  exact hJ66 _ ⟨dOrF hc65, rfl, rfl, rfl, rfl, rfl, rfl, rfl, rfl, rfl, rfl, rfl, rfl, rfl, rfl, rfl, rfl, trivial⟩
                            · refine RD.no (fun _ _ => trivial) rfl rfl rfl (.inl rfl) ?_
                              refine RD.no (fun _ _ => trivial) rfl rfl rfl (.inl rfl) ?_
                              refine RD.no (fun _ _ => trivial) rfl rfl rfl (.inl rfl) ?_
                              refine RD.no (fun _ _ => trivial) rfl rfl rfl (.inr (.inr rfl)) ?_
                              refine RD.no (fun _ _ => trivial) rfl rfl rfl (.inl rfl) ?_
                              refine RD.no (fun _ _ => trivial) rfl rfl rfl (.inl rfl) ?_
                              refine RD.no (fun _ _ => trivial) rfl rfl rfl (.inl rfl) ?_
                              refine RD.no (fun _ _ => trivial) rfl rfl rfl (.inl rfl) ?_
                              refine RD.no (fun _ _ => trivial) rfl rfl rfl (.inl rfl) ?_
                              refine RD.no (fun _ _ => trivial) rfl rfl rfl (.inr (.inr rfl)) ?_
                              refine RD.no (fun _ _ => trivial) rfl rfl rfl (.inl rfl) ?_
                              refine RD.no (fun _ _ => trivial) rfl rfl rfl (.inl rfl) ?_
                              refine RD.no (fun _ _ => trivial) rfl rfl rfl (.inl rfl) ?_
                              refine RD.no (fun _ _ => trivial) rfl rfl rfl (.inr (.inr rfl)) ?_
                              refine RD.no (fun _ _ => trivial) rfl rfl rfl (.inl rfl) ?_
                              refine RD.no (fun _ _ => trivial) rfl rfl rfl (.inl rfl) ?_
                              refine RD.p (fun _ _ => trivial) rfl (Pu.pickF rfl rfl) rfl rfl ?_
                              exact hJ57 _ ⟨dAndF hc56, rfl, rfl, rfl, rfl, rfl, trivial⟩
                        · have H := ifF hc52 H
                          obtain rfl := hd48 _ H
                          refine T.exitTo (by with_reducible (repeat (first | exact ExTo.here | exact ExTo.hereN | exact ExTo.deep (by repeat (first | exact NmTo.seq | apply NmTo.blk)) | apply ExTo.seq | refine ExTo.past (by decide) ?_))) (hJ48 _ _ () () HX48 ⟨rfl, rfl, trivial⟩ trivial (fun w s => s))
                  · intro hJ46
                    refine RS.split 94 rfl (fun hc45 => ?_) (fun hc45 => ?_)
                    · refine RS.no rfl rfl ?_
                      refine RS.no rfl rfl ?_
                      refine RS.no rfl rfl ?_
                      refine RS.no rfl rfl ?_
                      refine RS.no rfl rfl ?_
                      refine RS.p (Pu.pickT rfl rfl) rfl rfl ?_
                      exact hJ46 _ _ ⟨dOrT hc45, rfl, rfl, rfl, rfl, trivial⟩ (fun w s => s)
                    · refine RS.p (Pu.move rfl) rfl rfl ?_
                      refine RS.p (Pu.lenSl sl26 rfl) rfl rfl ?_
                      refine RS.p (Pu.move rfl) rfl rfl ?_
                      refine RS.p (Pu.lenSl sl26 rfl) rfl rfl ?_
                      refine RS.p (Pu.bin rfl rfl rfl) rfl rfl ?_
                      refine RS.p (Pu.pickF rfl rfl) rfl rfl ?_
                      exact hJ46 _ _ ⟨dOrF (bne_of hc45), rfl, rfl, rfl, rfl, trivial⟩ (fun w s => s)
                · intro z67 H hJ43
                  refine RS.splitP 89 rfl (fun hc42 => ?_) (fun hc42 => ?_)
                  · have H := ifT hc42 H
                    refine RS.no rfl rfl ?_
                    refine RS.no rfl rfl ?_
                    refine RS.no rfl rfl ?_
                    refine RS.p (Pu.pickT rfl rfl) rfl rfl ?_
                    obtain rfl := Option.some.inj H
                    exact hJ43 _ _ ⟨rfl, rfl, rfl, rfl, rfl, trivial⟩ (fun w s => s)
                  · have H := ifF hc42 H
                    refine RS.p (Pu.move rfl) rfl rfl ?_
                    obtain ⟨x68, hx68, H⟩ := bindE H
                    refine RS.q (Qt.call (vs := [.int .i64 x39.2]) ent40 rfl fun w s => thronglaw13_num_walk x39.2 w  hx68) rfl rfl ?_
                    refine RS.p (Pu.bin rfl rfl rfl) rfl rfl ?_
                    refine RS.p (Pu.pickF rfl rfl) rfl rfl ?_
                    obtain rfl := Option.some.inj H
                    exact hJ43 _ _ ⟨rfl, rfl, rfl, rfl, rfl, trivial⟩ (fun w s => s)
            · intro z69 H hJ27
              refine RS.split 47 rfl (fun hc26 => ?_) (fun hc26 => ?_)
              · have H := ifT hc26 H
                refine RS.no rfl rfl ?_
                refine RS.no rfl rfl ?_
                refine RS.no rfl rfl ?_
                refine RS.no rfl rfl ?_
                refine RS.no rfl rfl ?_
                refine RS.p (Pu.pickT rfl rfl) rfl rfl ?_
                obtain rfl := Option.some.inj H
                exact hJ27 _ _ ⟨rfl, rfl, rfl, rfl, rfl, trivial⟩ (fun w s => s)
              · have H := ifB hc26 H
                refine RS.p (Pu.fieldAddr fd56_0 rfl) rfl rfl ?_
                refine RS.q (Qt.ldBA (us := [_, _, _]) 0 ty24 rfl rfl rfl rfl) rfl rfl ?_
                refine RS.p (Pu.move rfl) rfl rfl ?_
                obtain ⟨x70, hx70, H⟩ := bindE H
                refine RS.q (Qt.call (vs := [.agg #[.int .i64 a0_p.g.w, .int .i64 a0_p.g.h, .slice p0 a0_p.g.tiles.length c0], .int .i64 (gi a0_p.ts (v14 + 1))]) ent36 rfl fun w s => throngref5_Tile_walk a0_p.g (gi a0_p.ts (v14 + 1)) w ((Rd.base h0) w s) hx70) rfl rfl ?_
                refine RS.p (Pu.not rfl) rfl rfl ?_
                refine RS.p (Pu.pickF rfl rfl) rfl rfl ?_
                obtain rfl := Option.some.inj H
                exact hJ27 _ _ ⟨rfl, rfl, rfl, rfl, rfl, trivial⟩ (fun w s => s)
          · have H := ifF hc19 H
            obtain rfl := hd7 _ H
            refine T.exitTo (by with_reducible (repeat (first | exact ExTo.here | exact ExTo.hereN | exact ExTo.deep (by repeat (first | exact NmTo.seq | apply NmTo.blk)) | apply ExTo.seq | refine ExTo.past (by decide) ?_))) (hJ7 _ _ () () HX7 ⟨rfl, trivial⟩ trivial (fun w s => s))
        · intro hJ18
          refine RS.splitP 25 rfl (fun hc17 => ?_) (fun hc17 => ?_)
          · refine RS.p (Pu.move rfl) rfl rfl ?_
            refine RS.p (Pu.bin rfl rfl rfl) rfl rfl ?_
            refine RS.p (Pu.pickT rfl rfl) rfl rfl ?_
            exact hJ18 _ _ ⟨dAndT hc17, rfl, rfl, trivial⟩ (fun w s => s)
          · refine RS.no rfl rfl ?_
            refine RS.no rfl rfl ?_
            refine RS.p (Pu.pickF rfl rfl) rfl rfl ?_
            exact hJ18 _ _ ⟨dAndF hc17, rfl, rfl, trivial⟩ (fun w s => s)
  · intro z71 H hJ4
    refine RS.split 14 rfl (fun hc3 => ?_) (fun hc3 => ?_)
    · have H := ifT hc3 H
      refine RS.no rfl rfl ?_
      refine RS.no rfl rfl ?_
      refine RS.no rfl rfl ?_
      refine RS.p (Pu.pickT rfl rfl) rfl rfl ?_
      obtain rfl := Option.some.inj H
      exact hJ4 _ _ ⟨rfl, rfl, trivial⟩ (fun w s => s)
    · have H := ifB hc3 H
      refine RS.q (Qt.ldBA (us := [_, _, _, _, _, _, _]) 0 ty56 rfl rfl rfl rfl) rfl rfl ?_
      obtain ⟨x72, hx72, H⟩ := bindE H
      refine RS.q (Qt.call (vs := [.agg #[.int .i64 a0_p.g.w, .int .i64 a0_p.g.h, .slice p0 a0_p.g.tiles.length c0, .slice p1 a0_p.l.length c1, .int .i64 a0_p.cls, .int .i64 a0_p.size, .slice p2 a0_p.ts.length c2]]) ent35 rfl fun w s => thronglaw13_form_walk a0_p w ((Rd.base h0) w s) ((Rd.base h1) w s) ((Rd.base h2) w s) hx72) rfl rfl ?_
      refine RS.p (Pu.bin rfl rfl rfl) rfl rfl ?_
      refine RS.p (Pu.pickF rfl rfl) rfl rfl ?_
      obtain rfl := Option.some.inj H
      exact hJ4 _ _ ⟨rfl, rfl, trivial⟩ (fun w s => s)
end Go.Proofs.Ytdaopgoaghhbpaa
