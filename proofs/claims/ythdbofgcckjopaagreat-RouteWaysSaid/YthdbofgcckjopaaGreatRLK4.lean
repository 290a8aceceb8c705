/-
  Walk of RouteWays.
-/
import Derived.Test.YthdbofgcckjopaaGreatRows
import Derived.Test.YthdbofgcckjopaaGreatW3
import Derived.Test.YthdbofgcckjopaaGreatRLH
import Derived.Test.YthdbofgcckjopaaGreatRLG4
set_option linter.unusedVariables false
set_option linter.unusedSimpArgs false
set_option maxRecDepth 20000
set_option maxHeartbeats 4000000
namespace Go.Proofs.YthdbofgcckjopaaGreat
open Go.Vg
open Enc (R)
theorem ent14 : Ent Tryz.prog 14 := ⟨_, _, Tryz.func14, by kernel_rfl, rfl⟩
theorem ent15 : Ent Tryz.prog 15 := ⟨_, _, Tryz.func15, by kernel_rfl, rfl⟩
theorem ent23 : Ent Tryz.prog 23 := ⟨_, _, Tryz.func23, by kernel_rfl, rfl⟩
theorem ent29 : Ent Tryz.prog 29 := ⟨_, _, Tryz.func29, by kernel_rfl, rfl⟩
theorem ent34 : Ent Tryz.prog 34 := ⟨_, _, Tryz.func34, by kernel_rfl, rfl⟩
theorem fd39_2 : fdOff Tryz.prog 39 2 = some 4 := by kernel_rfl
theorem fd39_3 : fdOff Tryz.prog 39 3 = some 5 := by kernel_rfl
theorem ty39 : tySz Tryz.prog 39 = some (7, true) := by kernel_rfl
theorem thronglaw14_RouteWays_walk (a0_p : Ask13) (w : World) {v0 v1 v2 : Value} (h0 : R (hpOf w) a0_p.g.tiles [v0]) (h1 : R (hpOf w) a0_p.l [v1]) (h2 : R (hpOf w) a0_p.ts [v2]) {r : Bool} (H : thronglaw14_RouteWays a0_p = some r) : Calls Tryz.prog 7 #[.agg #[.int .i64 a0_p.g.w, .int .i64 a0_p.g.h, v0, v1, .int .i64 a0_p.cls, .int .i64 a0_p.size, v2]] w fun e w' => e = .returned (.bool r) ∧ Ext w w' := by
 have hm0 := R_max h0
 obtain ⟨p0, c0, rfl⟩ := R_form h0
 have hm1 := R_max h1
 obtain ⟨p1, c1, rfl⟩ := R_form h1
 have hm2 := R_max h2
 obtain ⟨p2, c2, rfl⟩ := R_form h2
 unfold thronglaw14_RouteWays at H
 refine T.enter (args := [_]) (S := Sat w []) Tryz.func7 rfl rfl (Sat.start w) ?_
 refine T.seq fun K1 hK1 => T.region (RS.solid (Sd.box (cs := [_, _, _, _, _, _, _]) rfl rfl) rfl rfl fun b1 => rA rfl (RS.nil (hK1 _ _ ?_)))
 refine T.seq fun K2 hK2 => T.seq fun K3 hK3 => T.region (rq (Qt.ldBA (us := [_, _, _, _, _, _, _]) 0 ty39 rfl rfl rfl rfl) ?_)
 obtain ⟨x2, hx2, H⟩ := bindE H
 refine rq (Qt.call (vs := [.agg #[.int .i64 a0_p.g.w, .int .i64 a0_p.g.h, .slice p0 a0_p.g.tiles.length c0, .slice p1 a0_p.l.length c1, .int .i64 a0_p.cls, .int .i64 a0_p.size, .slice p2 a0_p.ts.length c2]]) ent23 rfl fun w s => thronglaw13_Heavy_walk a0_p w ((Rd.base h0) w s) ((Rd.base h1) w s) ((Rd.base h2) w s) hx2) (rM rfl ?_)
 refine RS.joinB H 11 23 (fun b5 => .bool b5) [(1, _)] ⟨rfl, trivial⟩ ?_ ?_
 ·intro b5 H
  refine RS.nil (hK3 _ _ ?_)
  refine T.cond rfl (fun hc6 => ?_) (fun hc6 => ?_)
  ·have H := ifT hc6 H
   refine T.seq fun K4 hK4 => T.region (rA rfl (RS.nil (hK4 _ _ ?_)))
   obtain rfl := sj H
   refine T.rt (Cont.ret1 rfl rfl fun w' s => ?_)
   exact ⟨rfl, s.ext⟩
  ·have H := ifB hc6 H
   refine T.skip (hK2 _ _ ?_)
   refine T.seq fun K5 hK5 => T.seq fun K6 hK6 => T.region (rA rfl (RS.nil (hK6 _ _ ?_)))
   refine T.joinE (σ := Unit) (γ := Unit) H Ex.go [] trivial (fun _ _ => []) (fun _ _ => Sat w [blk b1 [.int .i64 a0_p.g.w, .int .i64 a0_p.g.h, .slice p0 a0_p.g.tiles.length c0, .slice p1 a0_p.l.length c1, .int .i64 a0_p.cls, .int .i64 a0_p.size, .slice p2 a0_p.ts.length c2] 39]) ?_ ?_
   ·rintro ⟨⟩ ⟨⟩ H
    try dsimp only [Ex.then] at H
    refine Cont.conseq (fr' := []) ?_ trivial (fun _ s => s)
    refine id (hK5 _ _ ?_)
    refine T.seq fun K7 hK7 => T.region ?_
    obtain ⟨x8, hx8, H⟩ := bindE H
    refine rq (Qt.call (vs := []) ent29 rfl fun w s => thronglaw14_wakes_walk  w  hx8) (rA rfl (RS.nil (hK7 _ _ ?_)))
    obtain rfl := sj H
    refine T.rt (Cont.ret1 rfl rfl fun w' s => ?_)
    exact ⟨rfl, s.ext⟩
   ·intro z7 hz7 HX7 hJ7
    refine T.block ?_
    refine T.loopA (γ := Unit) hz7 [(1, _)] (fun v9 _ => [(3, .int .i64 v9)]) (fun v9 _ => Sat w [blk b1 [.int .i64 a0_p.g.w, .int .i64 a0_p.g.h, .slice p0 a0_p.g.tiles.length c0, .slice p1 a0_p.l.length c1, .int .i64 a0_p.cls, .int .i64 a0_p.size, .slice p2 a0_p.ts.length c2] 39]) () ⟨rfl, trivial⟩ ⟨rfl, trivial⟩ (fun w s => s) ?_
    rintro v9 ⟨⟩ y10 H hd7 KL7 hL7
    try dsimp only [Ex.then] at H
    refine cq [(3, _), (1, _)] ?_
    refine T.seq fun K8 hK8 => T.seq fun K9 hK9 => T.region (rM rfl ?_)
    obtain ⟨g11, H⟩ := gdE H
    refine rp (Pu.addS rfl rfl g11) (rp (Pu.fieldAddr fd39_4 rfl) (rq (Qt.ldB 0 ty23 rfl rfl rfl) (rp (Pu.lenSl sl23 rfl) (rp (Pu.bin rfl rfl rfl) (rM rfl ?_)))))
    refine RS.joinV 3 33 (.bool (decide (((v9 + 1) < (a0_p.ts.length : Int)) ∧ (v9 < 6)))) [(1, _), (3, _)] ⟨rfl, rfl, trivial⟩ ?_ ?_
    ·refine RS.nil (hK9 _ _ ?_)
     refine T.condP rfl (fun hc14 => ?_) (fun hc14 => ?_)
     ·have H := ifT hc14 H
      refine T.skip (hK8 _ _ ?_)
      refine T.seq fun K10 hK10 => T.block (T.seq fun K11 hK11 => ?_)
      refine T.drawn (fun _ => True) [(0, .pu), (1, .rd), (2, .pu), (3, .pu), (4, .rd), (5, .pu), (6, .rd), (7, .pu), (8, .pu), (9, .pu), (10, .rd), (11, .pu), (12, .pu)] mixed (ClE.sat _ _) (by kernel_rfl) ?_
      refine dp rfl (Pu.fieldAddr fd39_4 rfl) (dq rfl (Qt.ldB 0 ty23 rfl rfl rfl) (dp rfl (Pu.move rfl) ?_))
      obtain ⟨g15, H⟩ := gdE H
      obtain ⟨bl16, ol17, rfl⟩ := R_ptr h2 (ne_of_pos (pos_of g15))
      refine dp rfl (Pu.indexSl sl23 rfl rfl g15) (dq rfl (Qt.ld0 (α := Int) (Rd.base h2) ty3 rfl rfl g15 (by rintro _ _ rfl; rfl)) (dp rfl (Pu.fieldAddr fd39_4 rfl) (dq rfl (Qt.ldB 0 ty23 rfl rfl rfl) (dp rfl (Pu.move rfl) ?_))))
      obtain ⟨g18, H⟩ := gdE H
      refine dp rfl (Pu.addS rfl rfl g18) ?_
      obtain ⟨g19, H⟩ := gdE H
      refine dp rfl (Pu.indexSl sl23 rfl rfl g19) (dq rfl (Qt.ld0 (α := Int) (Rd.base h2) ty3 rfl rfl g19 (by rintro _ _ rfl; rfl)) (dp rfl (Pu.assign rfl) (dp rfl (Pu.assign rfl) (RD.nil (hK11 _ _ (cq [(1, _), (3, _), (4, _), (5, _)] ?_))))))
      refine T.seq fun K12 hK12 => T.seq fun K13 hK13 => T.region (rp (Pu.fieldAddr fd39_0 rfl) (rq (Qt.ldBA (us := [_, _, _]) 0 ty36 rfl rfl rfl rfl) (rM rfl ?_)))
      obtain ⟨x20, hx20, H⟩ := bindE H
      refine rq (Qt.call (vs := [.agg #[.int .i64 a0_p.g.w, .int .i64 a0_p.g.h, .slice p0 a0_p.g.tiles.length c0], .int .i64 (gi a0_p.ts v9)]) ent15 rfl fun w s => throngref5_Tile_walk a0_p.g (gi a0_p.ts v9) w ((Rd.base h0) w s) hx20) (rp (Pu.not rfl) (rM rfl ?_))
      refine RS.joinB H 6 58 (fun b23 => .bool b23) [(1, _), (3, _), (4, _), (5, _)] ⟨rfl, rfl, rfl, rfl, trivial⟩ ?_ ?_
      ·intro b23 H
       refine RS.nil (hK13 _ _ ?_)
       refine T.cond rfl (fun hc24 => ?_) (fun hc24 => ?_)
       ·have H := ifT hc24 H
        refine T.xt (hK10 _ _ (cq [(1, _), (3, _)] ?_))
        refine T.region (rM rfl ?_)
        obtain ⟨g25, H⟩ := gdE H
        refine rp (Pu.addS rfl rfl g25) (rA rfl (RS.nil (hL7 _ _ (v9 + 1) () H ⟨rfl, trivial⟩ ⟨rfl, trivial⟩ (fun w s => s))))
       ·have H := ifB hc24 H
        refine T.skip (hK12 _ _ ?_)
        refine T.seq fun K14 hK14 => T.region (rp (Pu.fieldAddr fd39_0 rfl) (rq (Qt.ldBA (us := [_, _, _]) 0 ty36 rfl rfl rfl rfl) (rp (Pu.fieldAddr fd39_1 rfl) (rq (Qt.ldB 0 ty37 rfl rfl rfl) (rp (Pu.fieldAddr fd39_2 rfl) (rq (Qt.ldB 0 ty3 rfl rfl rfl) (rp (Pu.fieldAddr fd39_3 rfl) (rq (Qt.ldB 0 ty3 rfl rfl rfl) (rM rfl ?_)))))))))
        obtain ⟨x26, hx26, H⟩ := bindE H
        refine RS.solid (Sd.callN (vs := [.agg #[.int .i64 a0_p.g.w, .int .i64 a0_p.g.h, .slice p0 a0_p.g.tiles.length c0], .slice p1 a0_p.l.length c1, .int .i64 a0_p.cls, .int .i64 a0_p.size, .int .i64 (gi a0_p.ts (v9 + 1))]) ent34 rfl (fun w s => field_Make_walk a0_p.g a0_p.l a0_p.cls a0_p.size (gi a0_p.ts (v9 + 1)) w ((Rd.base h0) w s) ((Rd.base h1) w s) hx26)) rfl rfl fun q27 => rM rfl (rp (Pu.extract rfl rfl) (rp (Pu.extract rfl rfl) (rA rfl (rA rfl (RS.nil (hK14 _ _ (cq [(1, _), (3, _), (4, _), (5, _), (6, _), (7, _)] ?_)))))))
        refine T.seq fun K15 hK15 => T.region (rp (Pu.fieldAddr fd39_0 rfl) (rq (Qt.ldBA (us := [_, _, _]) 0 ty36 rfl rfl rfl rfl) (rp (Pu.fieldAddr fd39_1 rfl) (rq (Qt.ldB 0 ty37 rfl rfl rfl) (rp (Pu.fieldAddr fd39_2 rfl) (rq (Qt.ldB 0 ty3 rfl rfl rfl) (rp (Pu.fieldAddr fd39_3 rfl) (rq (Qt.ldB 0 ty3 rfl rfl rfl) (rM rfl (rM rfl ?_))))))))))
        obtain ⟨x28, hx28, H⟩ := bindE H
        refine RS.solid (Sd.callN (vs := [.agg #[.int .i64 a0_p.g.w, .int .i64 a0_p.g.h, .slice p0 a0_p.g.tiles.length c0], .slice p1 a0_p.l.length c1, .int .i64 a0_p.cls, .int .i64 a0_p.size, .int .i64 (gi a0_p.ts v9), .int .i64 (gi a0_p.ts (v9 + 1))]) ent25 rfl (fun w s => route_Find_walk a0_p.g a0_p.l a0_p.cls a0_p.size (gi a0_p.ts v9) (gi a0_p.ts (v9 + 1)) w ((Rd.base h0) w s) ((Rd.base h1) w s) hx28)) rfl rfl fun ⟨q29, q30⟩ => ?_
        refine rM rfl (rp (Pu.extract rfl rfl) (rp (Pu.extract rfl rfl) (RS.solid (Sd.alloc zr52 rfl) rfl rfl fun b31 => RS.solid (Sd.stB (cs' := [_, _, _]) 4 ty52 rfl rfl rfl rfl rfl rfl rfl rfl) rfl rfl fun _ => rA rfl (RS.nil (hK15 _ _ (cq [(1, _), (3, _), (4, _), (6, _), (7, _), (8, _), (9, _)] ?_))))))
        refine T.seq fun K16 hK16 => T.seq fun K17 hK17 => ?_
        refine T.drawn (fun _ => True) [(0, .pu), (1, .rd), (2, .pu), (3, .pu), (4, .pu), (5, .pu), (6, .pu), (7, .pu), (8, .rd), (9, .pu), (10, .pu), (11, .pu), (12, .pu), (13, .pu), (14, .pu), (15, .pu), (16, .rd), (17, .pu), (18, .pu), (19, .rd), (20, .pu), (21, .pu), (22, .pu), (23, .pu), (24, .pu), (25, .rd), (26, .pu), (27, .pu), (28, .pu), (29, .rd), (30, .pu), (31, .pu), (32, .pu)] mixed (ClE.sat _ _) (by kernel_rfl) ?_
        refine dp rfl (Pu.move rfl) ?_
        obtain ⟨x32, hx32, H⟩ := bindE H
        refine dq rfl (Qt.call (vs := [.int .i64 x26.2]) ent26 rfl fun w s => thronglaw14_num_walk x26.2 w  hx32) (dp rfl (Pu.bin rfl rfl rfl) (dp rfl (Pu.move rfl) ?_))
        refine RD.joinV 8 97 (.bool (decide ((¬ x32 = 0) ∨ (¬ (x26.1.length : Int) = (a0_p.g.tiles.length : Int))))) [(1, _), (3, _), (4, _), (6, _), (8, _), (9, _)] ⟨rfl, rfl, rfl, rfl, rfl, rfl, trivial⟩ ?_ ?_
        ·refine dp rfl (Pu.move rfl) ?_
         refine RD.joinB H 10 108 (fun b37 => .bool b37) [(1, _), (3, _), (4, _), (6, _), (8, _), (9, _)] ⟨rfl, rfl, rfl, rfl, rfl, rfl, trivial⟩ ?_ ?_
         ·intro b37 H
          refine dp rfl (Pu.move rfl) ?_
          refine RD.joinB H 9 118 (fun b40 => .bool b40) [(1, _), (3, _), (4, _), (6, _), (8, _), (9, _)] ⟨rfl, rfl, rfl, rfl, rfl, rfl, trivial⟩ ?_ ?_
          ·intro b40 H
           refine RD.nil (hK17 _ _ ?_)
           refine T.cond rfl (fun hc41 => ?_) (fun hc41 => ?_)
           ·have H := ifT hc41 H
            refine cq [] ?_
            refine T.seq fun K18 hK18 => T.region (rA rfl (RS.nil (hK18 _ _ ?_)))
            obtain rfl := hd7 _ H
            have H := HX7
            obtain rfl := sj H
            refine T.rt (Cont.ret1 rfl rfl fun w' s => ?_)
            exact ⟨rfl, s.ext⟩
           ·have H := ifB hc41 H
            refine T.skip (hK16 _ _ ?_)
            refine T.seq fun K19 hK19 => ?_
            refine T.drawn (fun _ => True) [(0, .pu), (1, .rd), (2, .pu), (3, .pu), (4, .pu), (5, .rd), (6, .pu), (7, .pu), (8, .pu), (9, .rd), (10, .pu), (11, .pu), (12, .pu), (13, .rd), (14, .pu), (15, .pu), (16, .rd), (17, .pu), (18, .pu), (19, .pu), (20, .pu), (21, .pu)] mixed (ClE.sat _ _) (by kernel_rfl) ?_
            refine dp rfl (Pu.move rfl) ?_
            obtain ⟨x42, hx42, H⟩ := bindE H
            refine dq rfl (Qt.call (vs := [.int .i64 x28.2]) ent26 rfl fun w s => thronglaw14_num_walk x28.2 w  hx42) (dp rfl (Pu.bin rfl rfl rfl) (dp rfl (Pu.move rfl) ?_))
            obtain ⟨g45, H⟩ := gdE H
            obtain ⟨g46, H⟩ := gdE H
            refine RD.joinV 18 140 (.bool (decide ((x42 = 0) ∧ ((x28.1.cost < (gi x26.1 (gi a0_p.ts v9))) ∨ (¬ (x28.1.sectors.length : Int) = ((x28.1.portals.length : Int) + 1)))))) [(1, _), (3, _)] ⟨rfl, rfl, trivial⟩ ?_ ?_
            ·refine RD.nil (hK19 _ _ ?_)
             refine T.condP rfl (fun hc47 => ?_) (fun hc47 => ?_)
             ·have H := ifT hc47 H
              refine cq [] ?_
              refine T.seq fun K20 hK20 => T.region (rA rfl (RS.nil (hK20 _ _ ?_)))
              obtain rfl := hd7 _ H
              have H := HX7
              obtain rfl := sj H
              refine T.rt (Cont.ret1 rfl rfl fun w' s => ?_)
              exact ⟨rfl, s.ext⟩
             ·have H := ifF hc47 H
              refine T.skip (hK10 _ _ ?_)
              refine T.region (rM rfl ?_)
              obtain ⟨g48, H⟩ := gdE H
              refine rp (Pu.addS rfl rfl g48) (rA rfl (RS.nil (hL7 _ _ (v9 + 1) () H ⟨rfl, trivial⟩ ⟨rfl, trivial⟩ (fun w s => s.pick [0] (by decide) rfl))))
            ·intro hJ44
             refine RD.splitP 122 rfl (fun hc43 => ?_) (fun hc43 => ?_)
             ·refine dp rfl (Pu.fieldAddr fd52_0 rfl) (dq rfl (Qt.ldB 4 ty3 rfl rfl rfl) (dp rfl (Pu.move rfl) (dp rfl (Pu.move rfl) ?_)))
              refine RD.know (p := ∃ g cap, q27 = (some g, cap)) (fun w s => (s.row_some (k := 1) rfl (pos_of (g45 hc43)))) ?_
              rintro ⟨gg49, cc50, rfl⟩
              refine dp rfl (Pu.indexSl sl23 rfl rfl (g45 hc43)) (dq rfl (Qt.ld0 (α := Int) (Rd.ofRowN 1 rfl) ty3 rfl rfl (g45 hc43) (by rintro _ _ rfl; rfl)) (dp rfl (Pu.bin rfl rfl rfl) (dp rfl (Pu.move rfl) ?_)))
              refine RD.joinV 9 139 (.bool (decide ((x28.1.cost < (gi x26.1 (gi a0_p.ts v9))) ∨ (¬ (x28.1.sectors.length : Int) = ((x28.1.portals.length : Int) + 1))))) [(1, _), (3, _), (4, _), (6, _), (8, _), (9, _), (118, _), (119, _), (120, _), (121, _), (122, _), (123, _), (124, _), (125, _), (126, _), (127, _), (128, _), (129, _)] ⟨rfl, rfl, rfl, rfl, rfl, rfl, rfl, rfl, rfl, rfl, rfl, rfl, rfl, rfl, rfl, rfl, rfl, rfl, trivial⟩ ?_ ?_
              ·refine dp rfl (Pu.pickT rfl rfl) ?_
               exact hJ44 _ ⟨dAndT hc43, rfl, rfl, trivial⟩
              ·intro hJ52
               refine RD.splitP 130 rfl (fun hc51 => ?_) (fun hc51 => ?_)
               ·refine dn rfl (dn rfl (dn rfl (dn rfl (dn rfl (dn rfl (dn rfl (dn rfl (dp rfl (Pu.pickT rfl rfl) ?_))))))))
                exact hJ52 _ ⟨dOrT hc51, rfl, rfl, rfl, rfl, rfl, rfl, rfl, rfl, rfl, rfl, rfl, rfl, rfl, rfl, rfl, rfl, rfl, rfl, trivial⟩
               ·refine dp rfl (Pu.fieldAddr fd52_2 rfl) (dq rfl (Qt.ldB 4 ty23 rfl rfl rfl) (dp rfl (Pu.lenSl sl23 rfl) (dp rfl (Pu.fieldAddr fd52_1 rfl) (dq rfl (Qt.ldB 4 ty23 rfl rfl rfl) (dp rfl (Pu.lenSl sl23 rfl) (dp rfl (Pu.addS rfl rfl ((g46 hc43) hc51)) (dp rfl (Pu.bin rfl rfl rfl) (dp rfl (Pu.pickF rfl rfl) ?_))))))))
                exact hJ52 _ ⟨dOrF hc51, rfl, rfl, rfl, rfl, rfl, rfl, rfl, rfl, rfl, rfl, rfl, rfl, rfl, rfl, rfl, rfl, rfl, rfl, trivial⟩
             ·refine dn rfl (dn rfl (dn rfl (dn rfl (dn rfl (dn rfl (dn rfl (dn rfl (dn rfl (dn rfl (dn rfl (dn rfl (dn rfl (dn rfl ?_)))))))))))))
              refine dn rfl (dn rfl (dn rfl (dp rfl (Pu.pickF rfl rfl) ?_)))
              exact hJ44 _ ⟨dAndF hc43, rfl, rfl, trivial⟩
          ·intro z53 H hJ39
           refine RD.split 109 rfl (fun hc38 => ?_) (fun hc38 => ?_)
           ·have H := ifT hc38 H
            refine dn rfl (dn rfl (dn rfl (dn rfl (dn rfl (dn rfl (dn rfl (dn rfl (dp rfl (Pu.pickT rfl rfl) ?_))))))))
            obtain rfl := sj H
            exact hJ39 _ ⟨rfl, rfl, rfl, rfl, rfl, rfl, rfl, trivial⟩
           ·have H := ifB hc38 H
            refine dp rfl (Pu.move rfl) ?_
            obtain ⟨x54, hx54, H⟩ := bindE H
            refine dq rfl (Qt.call (vs := [.int .i64 x28.2]) ent26 rfl fun w s => thronglaw14_num_walk x28.2 w  hx54) (dp rfl (Pu.bin rfl rfl rfl) (dp rfl (Pu.move rfl) ?_))
            refine RD.joinB H 4 117 (fun b57 => .bool b57) [(1, _), (3, _), (4, _), (6, _), (8, _), (9, _), (108, _), (109, _), (110, _), (111, _), (112, _)] ⟨rfl, rfl, rfl, rfl, rfl, rfl, rfl, rfl, rfl, rfl, rfl, trivial⟩ ?_ ?_
            ·intro b57 H
             refine dp rfl (Pu.pickF rfl rfl) ?_
             obtain rfl := sj H
             exact hJ39 _ ⟨rfl, rfl, rfl, rfl, rfl, rfl, rfl, trivial⟩
            ·intro z58 H hJ56
             refine RD.splitP 113 rfl (fun hc55 => ?_) (fun hc55 => ?_)
             ·have H := ifT hc55 H
              refine dp rfl (Pu.move rfl) ?_
              obtain ⟨x59, hx59, H⟩ := bindE H
              refine dq rfl (Qt.call (vs := [.int .i64 x28.2]) ent26 rfl fun w s => thronglaw14_num_walk x28.2 w  hx59) (dp rfl (Pu.bin rfl rfl rfl) (dp rfl (Pu.pickT rfl rfl) ?_))
              obtain rfl := sj H
              exact hJ56 _ ⟨rfl, rfl, rfl, rfl, rfl, rfl, rfl, rfl, rfl, rfl, rfl, rfl, trivial⟩
             ·have H := ifF hc55 H
              refine dn rfl (dn rfl (dn rfl (dp rfl (Pu.pickF rfl rfl) ?_)))
              obtain rfl := sj H
              exact hJ56 _ ⟨rfl, rfl, rfl, rfl, rfl, rfl, rfl, rfl, rfl, rfl, rfl, rfl, trivial⟩
         ·intro z60 H hJ36
          refine RD.splitP 98 rfl (fun hc35 => ?_) (fun hc35 => ?_)
          ·have H := ifT hc35 H
           refine dn rfl (dn rfl (dn rfl (dn rfl (dn rfl (dn rfl (dn rfl (dn rfl (dn rfl (dp rfl (Pu.pickT rfl rfl) ?_)))))))))
           obtain rfl := sj H
           exact hJ36 _ ⟨rfl, rfl, rfl, rfl, rfl, rfl, rfl, trivial⟩
          ·have H := ifF hc35 H
           refine dp rfl (Pu.move rfl) (dp rfl (Pu.move rfl) ?_)
           obtain ⟨g61, H⟩ := gdE H
           refine RD.know (p := ∃ g cap, q27 = (some g, cap)) (fun w s => (s.row_some (k := 1) rfl (pos_of g61))) ?_
           rintro ⟨gg62, cc63, rfl⟩
           refine dp rfl (Pu.indexSl sl23 rfl rfl g61) (dq rfl (Qt.ld0 (α := Int) (Rd.ofRowN 1 rfl) ty3 rfl rfl g61 (by rintro _ _ rfl; rfl)) (dp rfl (Pu.bin rfl rfl rfl) (dp rfl (Pu.move rfl) ?_)))
           obtain ⟨x64, hx64, H⟩ := bindE H
           refine dq rfl (Qt.call (vs := [.int .i64 x28.2]) ent26 rfl fun w s => thronglaw14_num_walk x28.2 w  hx64) (dp rfl (Pu.bin rfl rfl rfl) (dp rfl (Pu.neB ul4 rfl rfl) (dp rfl (Pu.pickF rfl rfl) ?_)))
           obtain rfl := sj H
           exact hJ36 _ ⟨rfl, rfl, rfl, rfl, rfl, rfl, rfl, trivial⟩
        ·intro hJ34
         refine RD.splitP 89 rfl (fun hc33 => ?_) (fun hc33 => ?_)
         ·refine dn rfl (dn rfl (dn rfl (dn rfl (dn rfl (dn rfl (dn rfl (dp rfl (Pu.pickT rfl rfl) ?_)))))))
          exact hJ34 _ ⟨dOrT hc33, rfl, rfl, rfl, rfl, rfl, rfl, trivial⟩
         ·refine dp rfl (Pu.move rfl) (dp rfl (Pu.lenSl sl23 rfl) (dp rfl (Pu.fieldAddr fd39_0 rfl) (dp rfl (Pu.fieldAddr fd36_2 rfl) (dq rfl (Qt.ldB 0 ty34 rfl rfl rfl) (dp rfl (Pu.lenSl sl34 rfl) (dp rfl (Pu.bin rfl rfl rfl) (dp rfl (Pu.pickF rfl rfl) ?_)))))))
          exact hJ34 _ ⟨dOrF hc33, rfl, rfl, rfl, rfl, rfl, rfl, trivial⟩
      ·intro z65 H hJ22
       refine RS.split 52 rfl (fun hc21 => ?_) (fun hc21 => ?_)
       ·have H := ifT hc21 H
        refine ro (ro (ro (ro (ro (rp (Pu.pickT rfl rfl) ?_)))))
        obtain rfl := sj H
        exact hJ22 _ _ ⟨rfl, rfl, rfl, rfl, rfl, trivial⟩ (fun w s => s)
       ·have H := ifB hc21 H
        refine rp (Pu.fieldAddr fd39_0 rfl) (rq (Qt.ldBA (us := [_, _, _]) 0 ty36 rfl rfl rfl rfl) (rM rfl ?_))
        obtain ⟨x66, hx66, H⟩ := bindE H
        refine rq (Qt.call (vs := [.agg #[.int .i64 a0_p.g.w, .int .i64 a0_p.g.h, .slice p0 a0_p.g.tiles.length c0], .int .i64 (gi a0_p.ts (v9 + 1))]) ent15 rfl fun w s => throngref5_Tile_walk a0_p.g (gi a0_p.ts (v9 + 1)) w ((Rd.base h0) w s) hx66) (rp (Pu.not rfl) (rp (Pu.pickF rfl rfl) ?_))
        obtain rfl := sj H
        exact hJ22 _ _ ⟨rfl, rfl, rfl, rfl, rfl, trivial⟩ (fun w s => s)
     ·have H := ifF hc14 H
      obtain rfl := hd7 _ H
      refine T.xt (hJ7 _ _ () () HX7 trivial trivial (fun w s => s))
    ·intro hJ13
     refine RS.splitP 30 rfl (fun hc12 => ?_) (fun hc12 => ?_)
     ·refine rM rfl (rp (Pu.bin rfl rfl rfl) (rp (Pu.pickT rfl rfl) ?_))
      exact hJ13 _ _ ⟨dAndT hc12, rfl, rfl, trivial⟩ (fun w s => s)
     ·refine ro (ro (rp (Pu.pickF rfl rfl) ?_))
      exact hJ13 _ _ ⟨dAndF hc12, rfl, rfl, trivial⟩ (fun w s => s)
 ·intro z67 H hJ4
  refine RS.split 12 rfl (fun hc3 => ?_) (fun hc3 => ?_)
  ·have H := ifT hc3 H
   refine ro (ro (ro (ro (ro (ro (ro (ro (ro (ro (rp (Pu.pickT rfl rfl) ?_))))))))))
   obtain rfl := sj H
   exact hJ4 _ _ ⟨rfl, rfl, trivial⟩ (fun w s => s)
  ·have H := ifB hc3 H
   refine rp (Pu.fieldAddr fd39_0 rfl) (rq (Qt.ldBA (us := [_, _, _]) 0 ty36 rfl rfl rfl rfl) (rp (Pu.fieldAddr fd39_1 rfl) (rq (Qt.ldB 0 ty37 rfl rfl rfl) (rp (Pu.fieldAddr fd39_2 rfl) (rq (Qt.ldB 0 ty3 rfl rfl rfl) (rp (Pu.fieldAddr fd39_3 rfl) (rq (Qt.ldB 0 ty3 rfl rfl rfl) ?_)))))))
   obtain ⟨x68, hx68, H⟩ := bindE H
   refine rq (Qt.call (vs := [.agg #[.int .i64 a0_p.g.w, .int .i64 a0_p.g.h, .slice p0 a0_p.g.tiles.length c0], .slice p1 a0_p.l.length c1, .int .i64 a0_p.cls, .int .i64 a0_p.size]) ent14 rfl fun w s => throngref13_May_walk a0_p.g a0_p.l a0_p.cls a0_p.size w ((Rd.base h0) w s) ((Rd.base h1) w s) hx68) (rp (Pu.not rfl) (rp (Pu.pickF rfl rfl) ?_))
   obtain rfl := sj H
   exact hJ4 _ _ ⟨rfl, rfl, trivial⟩ (fun w s => s)
end Go.Proofs.YthdbofgcckjopaaGreat
