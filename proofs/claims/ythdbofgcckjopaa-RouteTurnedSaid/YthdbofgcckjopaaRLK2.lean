/-
  Walk of RouteTurned.
-/
import Derived.Test.YthdbofgcckjopaaRows
import Derived.Test.YthdbofgcckjopaaW3
import Derived.Test.YthdbofgcckjopaaRLH
import Derived.Test.YthdbofgcckjopaaRLG2
set_option linter.unusedVariables false
set_option linter.unusedSimpArgs false
set_option maxRecDepth 20000
set_option maxHeartbeats 4000000
namespace Go.Proofs.Ythdbofgcckjopaa
open Go.Vg
open Enc (R)
theorem ent4 : Ent Try.prog 4 := ⟨_, _, Try.func4, by kernel_rfl, rfl⟩
theorem ent5 : Ent Try.prog 5 := ⟨_, _, Try.func5, by kernel_rfl, rfl⟩
theorem ent6 : Ent Try.prog 6 := ⟨_, _, Try.func6, by kernel_rfl, rfl⟩
theorem ent9 : Ent Try.prog 9 := ⟨_, _, Try.func9, by kernel_rfl, rfl⟩
theorem fd28_2 : fdOff Try.prog 28 2 = some 4 := by kernel_rfl
theorem fd28_3 : fdOff Try.prog 28 3 = some 5 := by kernel_rfl
theorem ty28 : tySz Try.prog 28 = some (7, true) := by kernel_rfl
theorem thronglaw14_RouteTurned_walk (a0_p : Ask13) (w : World) {v0 v1 v2 : Value} (h0 : R (hpOf w) a0_p.g.tiles [v0]) (h1 : R (hpOf w) a0_p.l [v1]) (h2 : R (hpOf w) a0_p.ts [v2]) {r : Bool} (H : thronglaw14_RouteTurned a0_p = some r) : Calls Try.prog 3 #[.agg #[.int .i64 a0_p.g.w, .int .i64 a0_p.g.h, v0, v1, .int .i64 a0_p.cls, .int .i64 a0_p.size, v2]] w fun e w' => e = .returned (.bool r) ∧ Ext w w' := by
 have hm0 := R_max h0
 obtain ⟨p0, c0, rfl⟩ := R_form h0
 have hm1 := R_max h1
 obtain ⟨p1, c1, rfl⟩ := R_form h1
 have hm2 := R_max h2
 obtain ⟨p2, c2, rfl⟩ := R_form h2
 unfold thronglaw14_RouteTurned at H
 refine T.enter (args := [_]) (S := Sat w []) Try.func3 rfl rfl (Sat.start w) ?_
 refine T.seq fun K1 hK1 => T.region (RS.solid (Sd.box (cs := [_, _, _, _, _, _, _]) rfl rfl) rfl rfl fun b1 => rA rfl (RS.nil (hK1 _ _ ?_)))
 refine T.seq fun K2 hK2 => T.seq fun K3 hK3 => T.region (rq (Qt.ldBA (us := [_, _, _, _, _, _, _]) 0 ty28 rfl rfl rfl rfl) ?_)
 obtain ⟨x2, hx2, H⟩ := bindE H
 refine rq (Qt.call (vs := [.agg #[.int .i64 a0_p.g.w, .int .i64 a0_p.g.h, .slice p0 a0_p.g.tiles.length c0, .slice p1 a0_p.l.length c1, .int .i64 a0_p.cls, .int .i64 a0_p.size, .slice p2 a0_p.ts.length c2]]) ent4 rfl fun w s => thronglaw13_Heavy_walk a0_p w ((Rd.base h0) w s) ((Rd.base h1) w s) ((Rd.base h2) w s) hx2) (rM rfl ?_)
 refine RS.joinB H 11 25 (fun b5 => .bool b5) [(1, _)] ⟨rfl, trivial⟩ ?_ ?_
 ·intro b5 H
  refine RS.nil (hK3 _ _ ?_)
  refine T.cond rfl (fun hc6 => ?_) (fun hc6 => ?_)
  ·have H := ifT hc6 H
   refine T.seq fun K4 hK4 => T.region (rA rfl (RS.nil (hK4 _ _ ?_)))
   obtain rfl := sj H
   refine T.rt (Cont.ret1 rfl rfl fun w' s => ?_)
   exact ⟨rfl, s.ext⟩
  ·have H := ifB hc6 H
   refine T.skip (hK2 _ _ ?_)
   refine T.seq fun K5 hK5 => T.seq fun K6 hK6 => T.region (rA rfl (RS.nil (hK6 _ _ ?_)))
   refine T.joinE (σ := Unit) (γ := Unit) H Ex.go [] trivial (fun _ _ => []) (fun _ _ => Sat w [blk b1 [.int .i64 a0_p.g.w, .int .i64 a0_p.g.h, .slice p0 a0_p.g.tiles.length c0, .slice p1 a0_p.l.length c1, .int .i64 a0_p.cls, .int .i64 a0_p.size, .slice p2 a0_p.ts.length c2] 28]) ?_ ?_
   ·rintro ⟨⟩ ⟨⟩ H
    try dsimp only [Ex.then] at H
    refine Cont.conseq (fr' := []) ?_ trivial (fun _ s => s)
    refine id (hK5 _ _ ?_)
    refine T.seq fun K7 hK7 => T.region ?_
    obtain ⟨x8, hx8, H⟩ := bindE H
    refine rq (Qt.call (vs := []) ent9 rfl fun w s => thronglaw14_wakes_walk  w  hx8) (rA rfl (RS.nil (hK7 _ _ ?_)))
    obtain rfl := sj H
    refine T.rt (Cont.ret1 rfl rfl fun w' s => ?_)
    exact ⟨rfl, s.ext⟩
   ·intro z7 hz7 HX7 hJ7
    refine T.block ?_
    refine T.loopA (γ := Unit) hz7 [(1, _)] (fun v9 _ => [(3, .int .i64 v9)]) (fun v9 _ => Sat w [blk b1 [.int .i64 a0_p.g.w, .int .i64 a0_p.g.h, .slice p0 a0_p.g.tiles.length c0, .slice p1 a0_p.l.length c1, .int .i64 a0_p.cls, .int .i64 a0_p.size, .slice p2 a0_p.ts.length c2] 28]) () ⟨rfl, trivial⟩ ⟨rfl, trivial⟩ (fun w s => s) ?_
    rintro v9 ⟨⟩ y10 H hd7 KL7 hL7
    try dsimp only [Ex.then] at H
    refine cq [(3, _), (1, _)] ?_
    refine T.seq fun K8 hK8 => T.seq fun K9 hK9 => T.region (rM rfl ?_)
    obtain ⟨g11, H⟩ := gdE H
    refine rp (Pu.addS rfl rfl g11) (rp (Pu.fieldAddr fd28_4 rfl) (rq (Qt.ldB 0 ty26 rfl rfl rfl) (rp (Pu.lenSl sl26 rfl) (rp (Pu.bin rfl rfl rfl) (rM rfl ?_)))))
    refine RS.joinV 3 35 (.bool (decide (((v9 + 1) < (a0_p.ts.length : Int)) ∧ (v9 < 4)))) [(1, _), (3, _)] ⟨rfl, rfl, trivial⟩ ?_ ?_
    ·refine RS.nil (hK9 _ _ ?_)
     refine T.condP rfl (fun hc14 => ?_) (fun hc14 => ?_)
     ·have H := ifT hc14 H
      refine T.skip (hK8 _ _ ?_)
      refine T.seq fun K10 hK10 => T.block (T.seq fun K11 hK11 => ?_)
      refine T.drawn (fun _ => True) [(0, .pu), (1, .rd), (2, .pu), (3, .pu), (4, .rd), (5, .pu), (6, .rd), (7, .pu), (8, .pu), (9, .pu), (10, .rd), (11, .pu), (12, .pu)] mixed (ClE.sat _ _) (by kernel_rfl) ?_
      refine dp rfl (Pu.fieldAddr fd28_4 rfl) (dq rfl (Qt.ldB 0 ty26 rfl rfl rfl) (dp rfl (Pu.move rfl) ?_))
      obtain ⟨g15, H⟩ := gdE H
      obtain ⟨bl16, ol17, rfl⟩ := R_ptr h2 (ne_of_pos (pos_of g15))
      refine dp rfl (Pu.indexSl sl26 rfl rfl g15) (dq rfl (Qt.ld0 (α := Int) (Rd.base h2) ty3 rfl rfl g15 (by rintro _ _ rfl; rfl)) (dp rfl (Pu.fieldAddr fd28_4 rfl) (dq rfl (Qt.ldB 0 ty26 rfl rfl rfl) (dp rfl (Pu.move rfl) ?_))))
      obtain ⟨g18, H⟩ := gdE H
      refine dp rfl (Pu.addS rfl rfl g18) ?_
      obtain ⟨g19, H⟩ := gdE H
      refine dp rfl (Pu.indexSl sl26 rfl rfl g19) (dq rfl (Qt.ld0 (α := Int) (Rd.base h2) ty3 rfl rfl g19 (by rintro _ _ rfl; rfl)) (dp rfl (Pu.assign rfl) (dp rfl (Pu.assign rfl) (RD.nil (hK11 _ _ (cq [(1, _), (3, _), (4, _), (5, _)] ?_))))))
      refine T.seq fun K12 hK12 => T.seq fun K13 hK13 => T.region (rp (Pu.fieldAddr fd28_0 rfl) (rq (Qt.ldBA (us := [_, _, _]) 0 ty24 rfl rfl rfl rfl) (rM rfl ?_)))
      obtain ⟨x20, hx20, H⟩ := bindE H
      refine rq (Qt.call (vs := [.agg #[.int .i64 a0_p.g.w, .int .i64 a0_p.g.h, .slice p0 a0_p.g.tiles.length c0], .int .i64 (gi a0_p.ts v9)]) ent6 rfl fun w s => throngref5_Tile_walk a0_p.g (gi a0_p.ts v9) w ((Rd.base h0) w s) hx20) (rp (Pu.not rfl) (rM rfl ?_))
      refine RS.joinB H 6 60 (fun b23 => .bool b23) [(1, _), (3, _), (4, _), (5, _)] ⟨rfl, rfl, rfl, rfl, trivial⟩ ?_ ?_
      ·intro b23 H
       refine RS.nil (hK13 _ _ ?_)
       refine T.cond rfl (fun hc24 => ?_) (fun hc24 => ?_)
       ·have H := ifT hc24 H
        refine T.xt (hK10 _ _ (cq [(1, _), (3, _)] ?_))
        refine T.region (rM rfl ?_)
        obtain ⟨g25, H⟩ := gdE H
        refine rp (Pu.addS rfl rfl g25) (rA rfl (RS.nil (hL7 _ _ (v9 + 1) () H ⟨rfl, trivial⟩ ⟨rfl, trivial⟩ (fun w s => s))))
       ·have H := ifB hc24 H
        refine T.skip (hK12 _ _ ?_)
        refine T.seq fun K14 hK14 => T.region (rp (Pu.fieldAddr fd28_0 rfl) (rq (Qt.ldBA (us := [_, _, _]) 0 ty24 rfl rfl rfl rfl) (rp (Pu.fieldAddr fd28_1 rfl) (rq (Qt.ldB 0 ty25 rfl rfl rfl) (rp (Pu.fieldAddr fd28_2 rfl) (rq (Qt.ldB 0 ty3 rfl rfl rfl) (rp (Pu.fieldAddr fd28_3 rfl) (rq (Qt.ldB 0 ty3 rfl rfl rfl) (rM rfl (rM rfl ?_))))))))))
        obtain ⟨x26, hx26, H⟩ := bindE H
        refine RS.solid (Sd.callN (vs := [.agg #[.int .i64 a0_p.g.w, .int .i64 a0_p.g.h, .slice p0 a0_p.g.tiles.length c0], .slice p1 a0_p.l.length c1, .int .i64 a0_p.cls, .int .i64 a0_p.size, .int .i64 (gi a0_p.ts v9), .int .i64 (gi a0_p.ts (v9 + 1))]) ent7 rfl (fun w s => route_Find_walk a0_p.g a0_p.l a0_p.cls a0_p.size (gi a0_p.ts v9) (gi a0_p.ts (v9 + 1)) w ((Rd.base h0) w s) ((Rd.base h1) w s) hx26)) rfl rfl fun ⟨q27, q28⟩ => ?_
        refine rM rfl (rp (Pu.extract rfl rfl) (rp (Pu.extract rfl rfl) (RS.solid (Sd.alloc zr33 rfl) rfl rfl fun b29 => RS.solid (Sd.stB (cs' := [_, _, _]) 3 ty33 rfl rfl rfl rfl rfl rfl rfl rfl) rfl rfl fun _ => rA rfl (RS.nil (hK14 _ _ (cq [(1, _), (3, _), (4, _), (5, _), (6, _), (7, _)] ?_))))))
        refine T.seq fun K15 hK15 => T.region (rp (Pu.fieldAddr fd28_0 rfl) (rq (Qt.ldBA (us := [_, _, _]) 0 ty24 rfl rfl rfl rfl) (rp (Pu.fieldAddr fd28_1 rfl) (rq (Qt.ldB 0 ty25 rfl rfl rfl) (rp (Pu.fieldAddr fd28_2 rfl) (rq (Qt.ldB 0 ty3 rfl rfl rfl) (rp (Pu.fieldAddr fd28_3 rfl) (rq (Qt.ldB 0 ty3 rfl rfl rfl) (rM rfl (rM rfl ?_))))))))))
        obtain ⟨x30, hx30, H⟩ := bindE H
        refine RS.solid (Sd.callN (vs := [.agg #[.int .i64 a0_p.g.w, .int .i64 a0_p.g.h, .slice p0 a0_p.g.tiles.length c0], .slice p1 a0_p.l.length c1, .int .i64 a0_p.cls, .int .i64 a0_p.size, .int .i64 (gi a0_p.ts (v9 + 1)), .int .i64 (gi a0_p.ts v9)]) ent7 rfl (fun w s => route_Find_walk a0_p.g a0_p.l a0_p.cls a0_p.size (gi a0_p.ts (v9 + 1)) (gi a0_p.ts v9) w ((Rd.base h0) w s) ((Rd.base h1) w s) hx30)) rfl rfl fun ⟨q31, q32⟩ => ?_
        refine rM rfl (rp (Pu.extract rfl rfl) (rp (Pu.extract rfl rfl) (RS.solid (Sd.alloc zr33 rfl) rfl rfl fun b33 => RS.solid (Sd.stB (cs' := [_, _, _]) 6 ty33 rfl rfl rfl rfl rfl rfl rfl rfl) rfl rfl fun _ => rA rfl (RS.nil (hK15 _ _ (cq [(1, _), (3, _), (4, _), (6, _), (7, _), (8, _), (9, _)] ?_))))))
        refine T.seq fun K16 hK16 => ?_
        try dsimp only [List.set, List.cons_append, List.nil_append]
        refine T.region (rp (Pu.fieldAddr fd28_0 rfl) (rq (Qt.ldBA (us := [_, _, _]) 0 ty24 rfl rfl rfl rfl) (rp (Pu.fieldAddr fd28_1 rfl) (rq (Qt.ldB 0 ty25 rfl rfl rfl) (rp (Pu.fieldAddr fd28_2 rfl) (rq (Qt.ldB 0 ty3 rfl rfl rfl) (rp (Pu.fieldAddr fd28_3 rfl) (rq (Qt.ldB 0 ty3 rfl rfl rfl) (rM rfl (rM rfl ?_))))))))))
        obtain ⟨x34, hx34, H⟩ := bindE H
        refine RS.solid (Sd.callN (vs := [.agg #[.int .i64 a0_p.g.w, .int .i64 a0_p.g.h, .slice p0 a0_p.g.tiles.length c0], .slice p1 a0_p.l.length c1, .int .i64 a0_p.cls, .int .i64 a0_p.size, .int .i64 (gi a0_p.ts v9), .int .i64 (gi a0_p.ts v9)]) ent7 rfl (fun w s => route_Find_walk a0_p.g a0_p.l a0_p.cls a0_p.size (gi a0_p.ts v9) (gi a0_p.ts v9) w ((Rd.base h0) w s) ((Rd.base h1) w s) hx34)) rfl rfl fun ⟨q35, q36⟩ => ?_
        refine rM rfl (rp (Pu.extract rfl rfl) (rp (Pu.extract rfl rfl) (RS.solid (Sd.alloc zr33 rfl) rfl rfl fun b37 => RS.solid (Sd.stB (cs' := [_, _, _]) 9 ty33 rfl rfl rfl rfl rfl rfl rfl rfl) rfl rfl fun _ => rA rfl (RS.nil (hK16 _ _ (cq [(1, _), (3, _), (6, _), (7, _), (8, _), (9, _), (10, _), (11, _)] ?_))))))
        refine T.seq fun K17 hK17 => ?_
        try dsimp only [List.set, List.cons_append, List.nil_append]
        refine T.region (rM rfl ?_)
        obtain ⟨x38, hx38, H⟩ := bindE H
        refine rq (Qt.call (vs := [.int .i64 x26.2]) ent8 rfl fun w s => thronglaw14_num_walk x26.2 w  hx38) (rM rfl ?_)
        obtain ⟨x39, hx39, H⟩ := bindE H
        refine rq (Qt.call (vs := [.int .i64 x30.2]) ent8 rfl fun w s => thronglaw14_num_walk x30.2 w  hx39) (rp (Pu.bin rfl rfl rfl) (rM rfl ?_))
        refine RS.joinV 6 114 (.bool (decide ((¬ x38 = x39) ∨ (¬ x26.1.cost = x30.1.cost)))) [(1, _), (3, _), (6, _), (7, _), (8, _), (10, _), (11, _)] ⟨rfl, rfl, rfl, rfl, rfl, rfl, rfl, trivial⟩ ?_ ?_
        ·refine rM rfl ?_
         refine RS.joinV 8 123 (.bool (decide (((¬ x38 = x39) ∨ (¬ x26.1.cost = x30.1.cost)) ∨ (¬ (x26.1.portals.length : Int) = (x30.1.portals.length : Int))))) [(1, _), (3, _), (7, _), (10, _), (11, _)] ⟨rfl, rfl, rfl, rfl, rfl, trivial⟩ ?_ ?_
         ·refine rM rfl ?_
          refine RS.joinB H 15 139 (fun b46 => .bool b46) [(1, _), (3, _), (7, _), (11, _)] ⟨rfl, rfl, rfl, rfl, trivial⟩ ?_ ?_
          ·intro b46 H
           refine rM rfl ?_
           refine RS.joinB H 9 149 (fun b49 => .bool b49) [(1, _), (3, _)] ⟨rfl, rfl, trivial⟩ ?_ ?_
           ·intro b49 H
            refine RS.nil (hK17 _ _ ?_)
            refine T.cond rfl (fun hc50 => ?_) (fun hc50 => ?_)
            ·have H := ifT hc50 H
             refine cq [] ?_
             refine T.seq fun K18 hK18 => T.region (rA rfl (RS.nil (hK18 _ _ ?_)))
             obtain rfl := hd7 _ H
             have H := HX7
             obtain rfl := sj H
             try dsimp only [List.set, List.cons_append, List.nil_append]
             refine T.rt (Cont.ret1 rfl rfl fun w' s => ?_)
             exact ⟨rfl, s.ext⟩
            ·have H := ifB hc50 H
             refine T.skip (hK10 _ _ ?_)
             try dsimp only [List.set, List.cons_append, List.nil_append]
             refine T.region (rM rfl ?_)
             obtain ⟨g51, H⟩ := gdE H
             refine rp (Pu.addS rfl rfl g51) (rA rfl (RS.nil (hL7 _ _ (v9 + 1) () H ⟨rfl, trivial⟩ ⟨rfl, trivial⟩ (fun w s => s.pick [0] (by decide) rfl))))
           ·intro z52 H hJ48
            refine RS.split 140 rfl (fun hc47 => ?_) (fun hc47 => ?_)
            ·have H := ifT hc47 H
             refine ro (ro (ro (ro (ro (ro (ro (ro (rp (Pu.pickT rfl rfl) ?_))))))))
             obtain rfl := sj H
             exact hJ48 _ _ ⟨rfl, rfl, rfl, trivial⟩ (fun w s => s)
            ·have H := ifB hc47 H
             refine rM rfl ?_
             obtain ⟨x53, hx53, H⟩ := bindE H
             refine rq (Qt.call (vs := [.int .i64 x26.2]) ent8 rfl fun w s => thronglaw14_num_walk x26.2 w  hx53) (rp (Pu.bin rfl rfl rfl) (rM rfl ?_))
             refine RS.joinB H 4 148 (fun b56 => .bool b56) [(1, _), (3, _), (7, _), (11, _), (139, _), (140, _), (141, _), (142, _), (143, _)] ⟨rfl, rfl, rfl, rfl, rfl, rfl, rfl, rfl, rfl, trivial⟩ ?_ ?_
             ·intro b56 H
              refine rp (Pu.pickF rfl rfl) ?_
              obtain rfl := sj H
              exact hJ48 _ _ ⟨rfl, rfl, rfl, trivial⟩ (fun w s => s)
             ·intro z57 H hJ55
              refine RS.splitP 144 rfl (fun hc54 => ?_) (fun hc54 => ?_)
              ·have H := ifT hc54 H
               refine rM rfl ?_
               obtain ⟨x58, hx58, H⟩ := bindE H
               refine rq (Qt.call (vs := [.int .i64 x34.2]) ent8 rfl fun w s => thronglaw14_num_walk x34.2 w  hx58) (rp (Pu.bin rfl rfl rfl) (rp (Pu.pickT rfl rfl) ?_))
               obtain rfl := sj H
               exact hJ55 _ _ ⟨rfl, rfl, rfl, rfl, rfl, rfl, rfl, rfl, rfl, rfl, trivial⟩ (fun w s => s)
              ·have H := ifF hc54 H
               refine ro (ro (ro (rp (Pu.pickF rfl rfl) ?_)))
               obtain rfl := sj H
               exact hJ55 _ _ ⟨rfl, rfl, rfl, rfl, rfl, rfl, rfl, rfl, rfl, rfl, trivial⟩ (fun w s => s)
          ·intro z59 H hJ45
           refine RS.splitP 124 rfl (fun hc44 => ?_) (fun hc44 => ?_)
           ·have H := ifT hc44 H
            refine ro (ro (ro (ro (ro (ro (ro (ro (ro (ro (ro (ro (ro (ro ?_)))))))))))))
            refine rp (Pu.pickT rfl rfl) ?_
            obtain rfl := sj H
            exact hJ45 _ _ ⟨rfl, rfl, rfl, rfl, rfl, trivial⟩ (fun w s => s)
           ·have H := ifF hc44 H
            refine rM rfl ?_
            obtain ⟨x60, hx60, H⟩ := bindE H
            refine rq (Qt.call (vs := [.int .i64 x34.2]) ent8 rfl fun w s => thronglaw14_num_walk x34.2 w  hx60) (rp (Pu.bin rfl rfl rfl) (rM rfl ?_))
            refine RS.joinV 10 138 (.bool (decide ((x60 = 0) ∧ ((¬ x34.1.cost = 0) ∨ (¬ (x34.1.portals.length : Int) = 0))))) [(1, _), (3, _), (7, _), (10, _), (11, _), (123, _), (124, _), (125, _), (126, _), (127, _)] ⟨rfl, rfl, rfl, rfl, rfl, rfl, rfl, rfl, rfl, rfl, trivial⟩ ?_ ?_
            ·refine rp (Pu.pickF rfl rfl) ?_
             obtain rfl := sj H
             exact hJ45 _ _ ⟨rfl, rfl, rfl, rfl, rfl, trivial⟩ (fun w s => s)
            ·intro hJ62
             refine RS.splitP 128 rfl (fun hc61 => ?_) (fun hc61 => ?_)
             ·refine rp (Pu.fieldAddr fd33_0 rfl) (rq (Qt.ldB 9 ty3 rfl rfl rfl) (rp (Pu.bin rfl rfl rfl) (rM rfl ?_)))
              refine RS.joinV 5 137 (.bool (decide ((¬ x34.1.cost = 0) ∨ (¬ (x34.1.portals.length : Int) = 0)))) [(1, _), (3, _), (7, _), (10, _), (11, _), (123, _), (124, _), (125, _), (126, _), (127, _), (128, _), (129, _), (130, _), (131, _)] ⟨rfl, rfl, rfl, rfl, rfl, rfl, rfl, rfl, rfl, rfl, rfl, rfl, rfl, rfl, trivial⟩ ?_ ?_
              ·refine rp (Pu.pickT rfl rfl) ?_
               exact hJ62 _ _ ⟨dAndT hc61, rfl, rfl, rfl, rfl, rfl, rfl, rfl, rfl, rfl, rfl, trivial⟩ (fun w s => s)
              ·intro hJ64
               refine RS.splitP 132 rfl (fun hc63 => ?_) (fun hc63 => ?_)
               ·refine ro (ro (ro (ro (rp (Pu.pickT rfl rfl) ?_))))
                exact hJ64 _ _ ⟨dOrT hc63, rfl, rfl, rfl, rfl, rfl, rfl, rfl, rfl, rfl, rfl, rfl, rfl, rfl, rfl, trivial⟩ (fun w s => s)
               ·refine rp (Pu.fieldAddr fd33_1 rfl) (rq (Qt.ldB 9 ty26 rfl rfl rfl) (rp (Pu.lenSl sl26 rfl) (rp (Pu.bin rfl rfl rfl) (rp (Pu.pickF rfl rfl) ?_))))
                exact hJ64 _ _ ⟨dOrF hc63, rfl, rfl, rfl, rfl, rfl, rfl, rfl, rfl, rfl, rfl, rfl, rfl, rfl, rfl, trivial⟩ (fun w s => s)
             ·refine ro (ro (ro (ro (ro (ro (ro (ro (ro (rp (Pu.pickF rfl rfl) ?_)))))))))
              exact hJ62 _ _ ⟨dAndF hc61, rfl, rfl, rfl, rfl, rfl, rfl, rfl, rfl, rfl, rfl, trivial⟩ (fun w s => s)
         ·intro hJ43
          refine RS.splitP 115 rfl (fun hc42 => ?_) (fun hc42 => ?_)
          ·refine ro (ro (ro (ro (ro (ro (ro (rp (Pu.pickT rfl rfl) ?_)))))))
           exact hJ43 _ _ ⟨dOrT hc42, rfl, rfl, rfl, rfl, rfl, trivial⟩ (fun w s => s)
          ·refine rp (Pu.fieldAddr fd33_1 rfl) (rq (Qt.ldB 3 ty26 rfl rfl rfl) (rp (Pu.lenSl sl26 rfl) (rp (Pu.fieldAddr fd33_1 rfl) (rq (Qt.ldB 6 ty26 rfl rfl rfl) (rp (Pu.lenSl sl26 rfl) (rp (Pu.bin rfl rfl rfl) (rp (Pu.pickF rfl rfl) ?_)))))))
           exact hJ43 _ _ ⟨dOrF hc42, rfl, rfl, rfl, rfl, rfl, trivial⟩ (fun w s => s)
        ·intro hJ41
         refine RS.splitP 108 rfl (fun hc40 => ?_) (fun hc40 => ?_)
         ·refine ro (ro (ro (ro (ro (rp (Pu.pickT rfl rfl) ?_)))))
          exact hJ41 _ _ ⟨dOrT hc40, rfl, rfl, rfl, rfl, rfl, rfl, rfl, trivial⟩ (fun w s => s)
         ·refine rp (Pu.fieldAddr fd33_0 rfl) (rq (Qt.ldB 3 ty3 rfl rfl rfl) (rp (Pu.fieldAddr fd33_0 rfl) (rq (Qt.ldB 6 ty3 rfl rfl rfl) (rp (Pu.bin rfl rfl rfl) (rp (Pu.pickF rfl rfl) ?_)))))
          exact hJ41 _ _ ⟨dOrF hc40, rfl, rfl, rfl, rfl, rfl, rfl, rfl, trivial⟩ (fun w s => s)
      ·intro z65 H hJ22
       refine RS.split 54 rfl (fun hc21 => ?_) (fun hc21 => ?_)
       ·have H := ifT hc21 H
        refine ro (ro (ro (ro (ro (rp (Pu.pickT rfl rfl) ?_)))))
        obtain rfl := sj H
        exact hJ22 _ _ ⟨rfl, rfl, rfl, rfl, rfl, trivial⟩ (fun w s => s)
       ·have H := ifB hc21 H
        refine rp (Pu.fieldAddr fd28_0 rfl) (rq (Qt.ldBA (us := [_, _, _]) 0 ty24 rfl rfl rfl rfl) (rM rfl ?_))
        obtain ⟨x66, hx66, H⟩ := bindE H
        refine rq (Qt.call (vs := [.agg #[.int .i64 a0_p.g.w, .int .i64 a0_p.g.h, .slice p0 a0_p.g.tiles.length c0], .int .i64 (gi a0_p.ts (v9 + 1))]) ent6 rfl fun w s => throngref5_Tile_walk a0_p.g (gi a0_p.ts (v9 + 1)) w ((Rd.base h0) w s) hx66) (rp (Pu.not rfl) (rp (Pu.pickF rfl rfl) ?_))
        obtain rfl := sj H
        exact hJ22 _ _ ⟨rfl, rfl, rfl, rfl, rfl, trivial⟩ (fun w s => s)
     ·have H := ifF hc14 H
      obtain rfl := hd7 _ H
      refine T.xt (hJ7 _ _ () () HX7 trivial trivial (fun w s => s))
    ·intro hJ13
     refine RS.splitP 32 rfl (fun hc12 => ?_) (fun hc12 => ?_)
     ·refine rM rfl (rp (Pu.bin rfl rfl rfl) (rp (Pu.pickT rfl rfl) ?_))
      exact hJ13 _ _ ⟨dAndT hc12, rfl, rfl, trivial⟩ (fun w s => s)
     ·refine ro (ro (rp (Pu.pickF rfl rfl) ?_))
      exact hJ13 _ _ ⟨dAndF hc12, rfl, rfl, trivial⟩ (fun w s => s)
 ·intro z67 H hJ4
  refine RS.split 14 rfl (fun hc3 => ?_) (fun hc3 => ?_)
  ·have H := ifT hc3 H
   refine ro (ro (ro (ro (ro (ro (ro (ro (ro (ro (rp (Pu.pickT rfl rfl) ?_))))))))))
   obtain rfl := sj H
   exact hJ4 _ _ ⟨rfl, rfl, trivial⟩ (fun w s => s)
  ·have H := ifB hc3 H
   refine rp (Pu.fieldAddr fd28_0 rfl) (rq (Qt.ldBA (us := [_, _, _]) 0 ty24 rfl rfl rfl rfl) (rp (Pu.fieldAddr fd28_1 rfl) (rq (Qt.ldB 0 ty25 rfl rfl rfl) (rp (Pu.fieldAddr fd28_2 rfl) (rq (Qt.ldB 0 ty3 rfl rfl rfl) (rp (Pu.fieldAddr fd28_3 rfl) (rq (Qt.ldB 0 ty3 rfl rfl rfl) ?_)))))))
   obtain ⟨x68, hx68, H⟩ := bindE H
   refine rq (Qt.call (vs := [.agg #[.int .i64 a0_p.g.w, .int .i64 a0_p.g.h, .slice p0 a0_p.g.tiles.length c0], .slice p1 a0_p.l.length c1, .int .i64 a0_p.cls, .int .i64 a0_p.size]) ent5 rfl fun w s => throngref13_May_walk a0_p.g a0_p.l a0_p.cls a0_p.size w ((Rd.base h0) w s) ((Rd.base h1) w s) hx68) (rp (Pu.not rfl) (rp (Pu.pickF rfl rfl) ?_))
   obtain rfl := sj H
   exact hJ4 _ _ ⟨rfl, rfl, trivial⟩ (fun w s => s)
end Go.Proofs.Ythdbofgcckjopaa
