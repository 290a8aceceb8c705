/-
  Walk of FieldsOnce.
-/
import Derived.Test.YthdbofgcckjopaaGreatRows
import Derived.Test.YthdbofgcckjopaaGreatW3
import Derived.Test.YthdbofgcckjopaaGreatLJ
import Derived.Test.YthdbofgcckjopaaGreatLG2
set_option linter.unusedVariables false
set_option linter.unusedSimpArgs false
set_option maxRecDepth 20000
set_option maxHeartbeats 4000000
namespace Go.Proofs.YthdbofgcckjopaaGreat
open Go.Vg
open Enc (R)
theorem ent12 : Ent Tryz.prog 12 := ⟨_, _, Tryz.func12, by kernel_rfl, rfl⟩
theorem ent13 : Ent Tryz.prog 13 := ⟨_, _, Tryz.func13, by kernel_rfl, rfl⟩
theorem ent14 : Ent Tryz.prog 14 := ⟨_, _, Tryz.func14, by kernel_rfl, rfl⟩
theorem ent15 : Ent Tryz.prog 15 := ⟨_, _, Tryz.func15, by kernel_rfl, rfl⟩
theorem ent19 : Ent Tryz.prog 19 := ⟨_, _, Tryz.func19, by kernel_rfl, rfl⟩
theorem ent8 : Ent Tryz.prog 8 := ⟨_, _, Tryz.func8, by kernel_rfl, rfl⟩
theorem fd25_0 : fdOff Tryz.prog 25 0 = some 0 := by kernel_rfl
theorem fd25_3 : fdOff Tryz.prog 25 3 = some 3 := by kernel_rfl
theorem fd39_2 : fdOff Tryz.prog 39 2 = some 4 := by kernel_rfl
theorem fd39_3 : fdOff Tryz.prog 39 3 = some 5 := by kernel_rfl
theorem ty25 : tySz Tryz.prog 25 = some (4, true) := by kernel_rfl
theorem zr39 : zeroOf Tryz.prog 39 = some (.agg #[.int .i64 0, .int .i64 0, .slice none 0 0, .slice none 0 0, .int .i64 0, .int .i64 0, .slice none 0 0]) := by kernel_rfl
theorem thronglaw18_FieldsOnce_walk (a0_p : Scr18) (w : World) {v0 v1 : Value} (h0 : R (hpOf w) a0_p.l [v0]) (h1 : R (hpOf w) a0_p.order [v1]) {r : Bool} (H : thronglaw18_FieldsOnce a0_p = some r) : Calls Tryz.prog 4 #[.agg #[.int .i64 a0_p.room, v0, v1, .int .i64 a0_p.forget]] w fun e w' => e = .returned (.bool r) ∧ Ext w w' := by
 have hm0 := R_max h0
 obtain ⟨p0, c0, rfl⟩ := R_form h0
 have hm1 := R_max h1
 obtain ⟨p1, c1, rfl⟩ := R_form h1
 unfold thronglaw18_FieldsOnce at H
 refine T.enter (args := [_]) (S := Sat w []) Tryz.func4 rfl rfl (Sat.start w) ?_
 refine T.seq fun K1 hK1 => T.region (RS.solid (Sd.box (cs := [_, _, _, _]) rfl rfl) rfl rfl fun b1 => rA rfl (RS.nil (hK1 _ _ ?_)))
 refine T.seq fun K2 hK2 => T.seq fun K3 hK3 => T.region (rq (Qt.ldBA (us := [_, _, _, _]) 0 ty25 rfl rfl rfl rfl) ?_)
 obtain ⟨x2, hx2, H⟩ := bindE H
 refine rq (Qt.call (vs := [.agg #[.int .i64 a0_p.room, .slice p0 a0_p.l.length c0, .slice p1 a0_p.order.length c1, .int .i64 a0_p.forget]]) ent8 rfl fun w s => thronglaw18_heavy_walk a0_p w ((Rd.base h0) w s) ((Rd.base h1) w s) hx2) (rM rfl ?_)
 refine RS.joinV 5 22 (.bool (decide ((x2 = true) ∨ ((a0_p.l.length : Int) = 0)))) [(1, _)] ⟨rfl, trivial⟩ ?_ ?_
 ·refine RS.nil (hK3 _ _ ?_)
  refine T.condP rfl (fun hc5 => ?_) (fun hc5 => ?_)
  ·have H := ifT hc5 H
   refine T.seq fun K4 hK4 => T.region (rA rfl (RS.nil (hK4 _ _ ?_)))
   obtain rfl := sj H
   refine T.rt (Cont.ret1 rfl rfl fun w' s => ?_)
   exact ⟨rfl, s.ext⟩
  ·have H := ifF hc5 H
   refine T.skip (hK2 _ _ ?_)
   refine T.seq fun K5 hK5 => T.seq fun K6 hK6 => T.region (rA rfl (RS.nil (hK6 _ _ ?_)))
   refine T.joinE (σ := Unit) (γ := Unit) H Ex.go [] trivial (fun _ _ => []) (fun _ _ => Sat w [blk b1 [.int .i64 a0_p.room, .slice p0 a0_p.l.length c0, .slice p1 a0_p.order.length c1, .int .i64 a0_p.forget] 25]) ?_ ?_
   ·rintro ⟨⟩ ⟨⟩ H
    try dsimp only [Ex.then] at H
    refine Cont.conseq (fr' := []) ?_ trivial (fun _ s => s)
    refine id (hK5 _ _ ?_)
    refine T.seq fun K7 hK7 => T.region ?_
    obtain ⟨x7, hx7, H⟩ := bindE H
    refine rq (Qt.call (vs := []) ent12 rfl fun w s => thronglaw18_wakes_walk  w  hx7) (rA rfl (RS.nil (hK7 _ _ ?_)))
    obtain rfl := sj H
    refine T.rt (Cont.ret1 rfl rfl fun w' s => ?_)
    exact ⟨rfl, s.ext⟩
   ·intro z6 hz6 HX6 hJ6
    refine T.block ?_
    refine T.loopA (γ := Unit) hz6 [(1, _)] (fun v8 _ => [(3, .int .i64 v8)]) (fun v8 _ => Sat w [blk b1 [.int .i64 a0_p.room, .slice p0 a0_p.l.length c0, .slice p1 a0_p.order.length c1, .int .i64 a0_p.forget] 25]) () ⟨rfl, trivial⟩ ⟨rfl, trivial⟩ (fun w s => s) ?_
    rintro v8 ⟨⟩ y9 H hd6 KL6 hL6
    try dsimp only [Ex.then] at H
    refine cq [(3, _), (1, _)] ?_
    refine T.seq fun K8 hK8 => T.seq fun K9 hK9 => T.region (rM rfl (rp (Pu.fieldAddr fd25_1 rfl) (rq (Qt.ldB 0 ty22 rfl rfl rfl) (rp (Pu.lenSl sl22 rfl) (rp (Pu.bin rfl rfl rfl) (RS.nil (hK9 _ _ ?_)))))))
    refine T.condP rfl (fun hc10 => ?_) (fun hc10 => ?_)
    ·have H := ifT hc10 H
     refine T.skip (hK8 _ _ (cq [(1, _), (3, _)] ?_))
     refine T.seq fun K10 hK10 => T.block (T.seq fun K11 hK11 => T.region (rp (Pu.fieldAddr fd25_1 rfl) (rq (Qt.ldB 0 ty22 rfl rfl rfl) (rM rfl ?_))))
     obtain ⟨g11, H⟩ := gdE H
     obtain ⟨bl12, ol13, rfl⟩ := R_ptr h0 (ne_of_pos (pos_of g11))
     refine rp (Pu.indexSl sl22 rfl rfl g11) ?_
     obtain ⟨c14, hc15, ha16⟩ := R_el (α := Ask13) h0 g11
     obtain ⟨u17, u18, u19, rfl, hu17, hu18, hu19⟩ := hc15
     obtain ⟨p20, cc21, rfl⟩ := R_form hu17
     obtain ⟨p22, cc23, rfl⟩ := R_form hu18
     obtain ⟨p24, cc25, rfl⟩ := R_form hu19
     refine rq (Qt.ldZ (cs := [_, _, _, _, _, _, _]) ty39 rfl ha16 Held.base rfl) (RS.solid (Sd.alloc zr39 rfl) rfl rfl fun b26 => RS.solid (Sd.stB (cs' := [_, _, _, _, _, _, _]) 1 ty39 rfl rfl rfl rfl rfl rfl rfl rfl) rfl rfl fun _ => RS.nil (hK11 _ _ (cq [(1, _), (3, _), (4, _)] ?_)))
     refine T.seq fun K12 hK12 => T.region (rp (Pu.fieldAddr fd25_0 rfl) (rq (Qt.ldB 0 ty3 rfl rfl rfl) ?_))
     obtain ⟨x27, hx27, H⟩ := bindE H
     refine rq (Qt.call (vs := [.int .i64 a0_p.room, .int .i64 8]) ent13 rfl fun w s => thronglaw0_Within_walk a0_p.room 8 w  hx27) ?_
     obtain ⟨g28, H⟩ := gdE H
     refine rp (Pu.addS rfl rfl g28) ?_
     obtain ⟨x29, hx29, H⟩ := bindE H
     obtain ⟨o30, o31⟩ := x29
     dsimp only at H
     refine RS.solid (Sd.callN (vs := [.int .i64 (1 + x27)]) ent9 rfl (fun w s => fields_New_walk (1 + x27) w  hx29)) rfl rfl fun g32 => rM rfl (rp (Pu.extract rfl rfl) (rp (Pu.extract rfl rfl) (rA rfl (rA rfl (RS.nil (hK12 _ _ (cq [(1, _), (3, _), (4, _), (5, _), (6, _)] ?_)))))))
     refine T.seq fun K13 hK13 => T.seq fun K14 hK14 => T.region (rM rfl ?_)
     obtain ⟨x33, hx33, H⟩ := bindE H
     refine rq (Qt.call (vs := [.int .i64 o31]) ent11 rfl fun w s => thronglaw18_num_walk o31 w  hx33) (rp (Pu.bin rfl rfl rfl) (rM rfl ?_))
     refine RS.joinV 3 49 (.bool (decide ((¬ x33 = 0) ∨ (o30.isNone = true)))) [(1, _), (3, _), (4, _), (5, _)] ⟨rfl, rfl, rfl, rfl, trivial⟩ ?_ ?_
     ·refine rM rfl ?_
      refine RS.splitP 50 rfl (fun hc36 => ?_) (fun hc36 => ?_)
      ·have H := ifT hc36 H
       refine ro (ro (ro (rp (Pu.pickT rfl rfl) (RS.nil (hK14 _ _ ?_)))))
       refine T.condT rfl ?_
       refine cq [] ?_
       refine T.seq fun K15 hK15 => T.region (rA rfl (RS.nil (hK15 _ _ ?_)))
       obtain rfl := hd6 _ H
       have H := HX6
       obtain rfl := sj H
       refine T.rt (Cont.ret1 rfl rfl fun w' s => ?_)
       exact ⟨rfl, s.ext⟩
      ·have H := ifF hc36 H
       refine rM rfl ?_
       obtain ⟨z37, hz37, HZz37⟩ := bindE H
       subst hz37
       have H := HZz37
       refine RS.weakS (fun w s => s.optSome (C := Fld_ch) 2 rfl) ?_
       obtain ⟨x38, hx38, H⟩ := bindE H
       refine RS.solid (Sd.callF0 2 ent22 rfl rfl (fun w s => fields_Made_walk g32 z37  hx38 w s)) rfl rfl fun _ => rp (Pu.bin rfl rfl rfl) (rp (Pu.pickF rfl rfl) (RS.nil (hK14 _ _ ?_)))
       refine T.condP rfl (fun hc39 => ?_) (fun hc39 => ?_)
       ·have H := ifT hc39 H
        refine cq [] ?_
        refine T.seq fun K16 hK16 => T.region (rA rfl (RS.nil (hK16 _ _ ?_)))
        obtain rfl := hd6 _ H
        have H := HX6
        obtain rfl := sj H
        refine T.rt (Cont.ret1 rfl rfl fun w' s => ?_)
        exact ⟨rfl, s.ext⟩
       ·have H := ifF hc39 H
        refine T.skip (hK13 _ _ (cq [(1, _), (3, _), (4, _), (5, _)] ?_))
        refine T.seq fun K17 hK17 => T.seq fun K18 hK18 => ?_
        refine T.drawn (fun _ => True) [(0, .pu), (1, .rd), (2, .pu), (3, .rd), (4, .pu), (5, .rd), (6, .pu), (7, .rd), (8, .rd), (9, .pu), (10, .pu), (11, .pu), (12, .rd), (13, .pu), (14, .pu), (15, .pu), (16, .pu), (17, .pu), (18, .rd), (19, .pu), (20, .rd), (21, .pu), (22, .rd), (23, .rd), (24, .pu), (25, .pu)] mixed (ClE.sat _ _) (by kernel_rfl) ?_
        refine dp rfl (Pu.fieldAddr fd39_0 rfl) (dq rfl (Qt.ldBA (us := [_, _, _]) 1 ty36 rfl rfl rfl rfl) (dp rfl (Pu.fieldAddr fd39_1 rfl) (dq rfl (Qt.ldB 1 ty37 rfl rfl rfl) (dp rfl (Pu.fieldAddr fd39_2 rfl) (dq rfl (Qt.ldB 1 ty3 rfl rfl rfl) (dp rfl (Pu.fieldAddr fd39_3 rfl) (dq rfl (Qt.ldB 1 ty3 rfl rfl rfl) ?_)))))))
        obtain ⟨x40, hx40, H⟩ := bindE H
        refine dq rfl (Qt.call (vs := [.agg #[.int .i64 (((gi a0_p.l v8).g).w), .int .i64 (((gi a0_p.l v8).g).h), .slice p20 (((gi a0_p.l v8).g).tiles).length cc21], .slice p22 ((gi a0_p.l v8).l).length cc23, .int .i64 ((gi a0_p.l v8).cls), .int .i64 ((gi a0_p.l v8).size)]) ent14 rfl fun w s => throngref13_May_walk ((gi a0_p.l v8).g) ((gi a0_p.l v8).l) ((gi a0_p.l v8).cls) ((gi a0_p.l v8).size) w ((Rd.base hu17) w s) ((Rd.base hu18) w s) hx40) (dp rfl (Pu.not rfl) (dp rfl (Pu.move rfl) ?_))
        refine RD.joinV 5 70 (.bool (decide (((!x40) = true) ∨ ((((gi a0_p.l v8).ts).length : Int) = 0)))) [(1, _), (3, _), (4, _), (5, _)] ⟨rfl, rfl, rfl, rfl, trivial⟩ ?_ ?_
        ·refine dp rfl (Pu.move rfl) ?_
         refine RD.joinB H 9 80 (fun b45 => .bool b45) [(1, _), (3, _), (4, _), (5, _)] ⟨rfl, rfl, rfl, rfl, trivial⟩ ?_ ?_
         ·intro b45 H
          refine RD.nil (hK18 _ _ ?_)
          refine T.cond rfl (fun hc46 => ?_) (fun hc46 => ?_)
          ·have H := ifT hc46 H
           refine T.xt (hK10 _ _ (cq [(1, _), (3, _)] ?_))
           refine T.region (rM rfl ?_)
           obtain ⟨g47, H⟩ := gdE H
           refine rp (Pu.addS rfl rfl g47) (rA rfl (RS.nil (hL6 _ _ (v8 + 1) () H ⟨rfl, trivial⟩ ⟨rfl, trivial⟩ (fun w s => s.pick [0] (by decide) rfl))))
          ·have H := ifB hc46 H
           refine T.skip (hK17 _ _ ?_)
           refine T.seq fun K19 hK19 => ?_
           refine T.drawnS [0, 1] [(0, .pu), (1, .pu), (2, .rd), (3, .pu), (4, .rd), (5, .pu), (6, .rd), (7, .pu), (8, .rd), (9, .pu), (10, .wk), (11, .pu), (12, .rd), (13, .br), (14, .pu), (15, .pu), (16, .pu), (17, .pu), (18, .pu)] mixed (by kernel_rfl) rfl ?_
           refine RD.p (fun w s => s.pick [0, 1] (by decide) rfl) rfl (Pu.move rfl) rfl rfl (RD.p (fun w s => s.pick [0, 1] (by decide) rfl) rfl (Pu.fieldAddr fd39_0 rfl) rfl rfl (RD.q (fun w s => s.pick [0, 1] (by decide) rfl) rfl (Qt.ldBA (us := [_, _, _]) 1 ty36 rfl rfl rfl rfl) rfl rfl (RD.p (fun w s => s.pick [0, 1] (by decide) rfl) rfl (Pu.fieldAddr fd39_1 rfl) rfl rfl (RD.q (fun w s => s.pick [0, 1] (by decide) rfl) rfl (Qt.ldB 1 ty37 rfl rfl rfl) rfl rfl (RD.p (fun w s => s.pick [0, 1] (by decide) rfl) rfl (Pu.fieldAddr fd39_2 rfl) rfl rfl (RD.q (fun w s => s.pick [0, 1] (by decide) rfl) rfl (Qt.ldB 1 ty3 rfl rfl rfl) rfl rfl (RD.p (fun w s => s.pick [0, 1] (by decide) rfl) rfl (Pu.fieldAddr fd39_3 rfl) rfl rfl (RD.q (fun w s => s.pick [0, 1] (by decide) rfl) rfl (Qt.ldB 1 ty3 rfl rfl rfl) rfl rfl (RD.p (fun w s => s.pick [0, 1] (by decide) rfl) rfl (Pu.fieldAddr fd39_4 rfl) rfl rfl ?_)))))))))
           refine RD.w (fun w s => s.pick [0, 1] (by decide) rfl) rfl (Qt.ldB 1 ty23 rfl rfl rfl) rfl rfl ?_
           obtain ⟨g48, H⟩ := gdE H
           obtain ⟨bl49, ol50, rfl⟩ := R_ptr hu19 (ne_of_pos (pos_of g48))
           refine RD.p (fun w s => s.pick [0, 1] (by decide) rfl) rfl (Pu.indexSl sl23 rfl rfl g48) rfl rfl (RD.q (fun w s => s.pick [0, 1] (by decide) rfl) rfl (Qt.ld0 (α := Int) (Rd.base hu19) ty3 rfl rfl g48 (by rintro _ _ rfl; rfl)) rfl rfl ?_)
           obtain ⟨x51, hx51, H⟩ := bindE H
           refine RD.solid rfl (.inr rfl) rfl rfl (Sd.callF 2 ent18 rfl rfl (fun w s => fields_Dirs_walk g32 z37 ((gi a0_p.l v8).g) ((gi a0_p.l v8).l) ((gi a0_p.l v8).cls) ((gi a0_p.l v8).size) (gi ((gi a0_p.l v8).ts) (0 : Int)) (Rd.base hu17) (Rd.base hu18) hx51 w s)) (fun _ => ClE.sat _ _) (fun _ w s => s.pick [0, 1] (by decide) rfl) (fun h => nomatch h) fun q52 => ?_
           refine RD.p (fun w s => s.pick [0, 1] (by decide) rfl) rfl (Pu.move rfl) rfl rfl (RD.p (fun w s => s.pick [0, 1] (by decide) rfl) rfl (Pu.extract rfl rfl) rfl rfl (RD.p (fun w s => s.pick [0, 1] (by decide) rfl) rfl (Pu.extract rfl rfl) rfl rfl (RD.p (fun w s => s.pick [0, 1] (by decide) rfl) rfl (Pu.assign rfl) rfl rfl (RD.p (fun w s => s.pick [0, 1] (by decide) rfl) rfl (Pu.assign rfl) rfl rfl (RD.nil (hK19 _ _ (cq [(1, _), (3, _), (4, _), (5, _), (7, _), (8, _)] ?_)))))))
           refine T.seq fun K20 hK20 => T.region (rM rfl ?_)
           obtain ⟨x53, hx53, H⟩ := bindE H
           refine RS.solid (Sd.callF0 2 ent22 rfl rfl (fun w s => fields_Made_walk g32 x51.2.2  hx53 w s)) rfl rfl fun _ => rA rfl (RS.nil (hK20 _ _ ?_))
           refine T.seq fun K21 hK21 => ?_
           refine T.drawnS [0, 1, 3] [(0, .pu), (1, .pu), (2, .rd), (3, .pu), (4, .rd), (5, .pu), (6, .rd), (7, .pu), (8, .rd), (9, .pu), (10, .wk), (11, .pu), (12, .rd), (13, .br), (14, .pu), (15, .pu), (16, .pu), (17, .pu), (18, .pu)] mixed (by kernel_rfl) rfl ?_
           refine RD.p (fun w s => s.pick [0, 1, 3] (by decide) rfl) rfl (Pu.move rfl) rfl rfl (RD.p (fun w s => s.pick [0, 1, 3] (by decide) rfl) rfl (Pu.fieldAddr fd39_0 rfl) rfl rfl (RD.q (fun w s => s.pick [0, 1, 3] (by decide) rfl) rfl (Qt.ldBA (us := [_, _, _]) 1 ty36 rfl rfl rfl rfl) rfl rfl (RD.p (fun w s => s.pick [0, 1, 3] (by decide) rfl) rfl (Pu.fieldAddr fd39_1 rfl) rfl rfl (RD.q (fun w s => s.pick [0, 1, 3] (by decide) rfl) rfl (Qt.ldB 1 ty37 rfl rfl rfl) rfl rfl (RD.p (fun w s => s.pick [0, 1, 3] (by decide) rfl) rfl (Pu.fieldAddr fd39_2 rfl) rfl rfl (RD.q (fun w s => s.pick [0, 1, 3] (by decide) rfl) rfl (Qt.ldB 1 ty3 rfl rfl rfl) rfl rfl (RD.p (fun w s => s.pick [0, 1, 3] (by decide) rfl) rfl (Pu.fieldAddr fd39_3 rfl) rfl rfl (RD.q (fun w s => s.pick [0, 1, 3] (by decide) rfl) rfl (Qt.ldB 1 ty3 rfl rfl rfl) rfl rfl (RD.p (fun w s => s.pick [0, 1, 3] (by decide) rfl) rfl (Pu.fieldAddr fd39_4 rfl) rfl rfl ?_)))))))))
           refine RD.w (fun w s => s.pick [0, 1, 3] (by decide) rfl) rfl (Qt.ldB 1 ty23 rfl rfl rfl) rfl rfl ?_
           obtain ⟨g54, H⟩ := gdE H
           refine RD.p (fun w s => s.pick [0, 1, 3] (by decide) rfl) rfl (Pu.indexSl sl23 rfl rfl g54) rfl rfl (RD.q (fun w s => s.pick [0, 1, 3] (by decide) rfl) rfl (Qt.ld0 (α := Int) (Rd.base hu19) ty3 rfl rfl g54 (by rintro _ _ rfl; rfl)) rfl rfl ?_)
           obtain ⟨x55, hx55, H⟩ := bindE H
           refine RD.solid rfl (.inr rfl) rfl rfl (Sd.callF 2 ent18 rfl rfl (fun w s => fields_Dirs_walk g32 x51.2.2 ((gi a0_p.l v8).g) ((gi a0_p.l v8).l) ((gi a0_p.l v8).cls) ((gi a0_p.l v8).size) (gi ((gi a0_p.l v8).ts) (0 : Int)) (Rd.base hu17) (Rd.base hu18) hx55 w s)) (fun _ => ClE.sat _ _) (fun _ w s => s.pick [0, 1, 3] (by decide) rfl) (fun h => nomatch h) fun q56 => ?_
           refine RD.p (fun w s => s.pick [0, 1, 3] (by decide) rfl) rfl (Pu.move rfl) rfl rfl (RD.p (fun w s => s.pick [0, 1, 3] (by decide) rfl) rfl (Pu.extract rfl rfl) rfl rfl (RD.p (fun w s => s.pick [0, 1, 3] (by decide) rfl) rfl (Pu.extract rfl rfl) rfl rfl (RD.p (fun w s => s.pick [0, 1, 3] (by decide) rfl) rfl (Pu.assign rfl) rfl rfl (RD.p (fun w s => s.pick [0, 1, 3] (by decide) rfl) rfl (Pu.assign rfl) rfl rfl (RD.nil (hK21 _ _ (cq [(1, _), (3, _), (4, _), (5, _), (7, _), (8, _), (9, _), (10, _), (11, _)] ?_)))))))
           refine T.seq fun K22 hK22 => T.seq fun K23 hK23 => T.region (rM rfl ?_)
           obtain ⟨x57, hx57, H⟩ := bindE H
           refine rq (Qt.call (vs := [.int .i64 x51.2.1]) ent11 rfl fun w s => thronglaw18_num_walk x51.2.1 w  hx57) (rp (Pu.bin rfl rfl rfl) (rM rfl ?_))
           refine RS.joinB H 4 124 (fun b60 => .bool b60) [(1, _), (3, _), (4, _), (5, _), (7, _), (9, _), (10, _)] ⟨rfl, rfl, rfl, rfl, rfl, rfl, rfl, trivial⟩ ?_ ?_
           ·intro b60 H
            refine rM rfl ?_
            refine RS.joinB H 5 130 (fun b63 => .bool b63) [(1, _), (3, _), (4, _), (5, _), (7, _), (9, _), (10, _)] ⟨rfl, rfl, rfl, rfl, rfl, rfl, rfl, trivial⟩ ?_ ?_
            ·intro b63 H
             refine rM rfl ?_
             refine RS.joinV 3 134 (.bool (decide ((b63 = true) ∨ (x53 < 1)))) [(1, _), (3, _), (4, _), (5, _), (7, _), (10, _)] ⟨rfl, rfl, rfl, rfl, rfl, rfl, trivial⟩ ?_ ?_
             ·refine rM rfl ?_
              refine RS.joinB H 5 140 (fun b68 => .bool b68) [(1, _), (3, _), (4, _), (5, _)] ⟨rfl, rfl, rfl, rfl, trivial⟩ ?_ ?_
              ·intro b68 H
               refine RS.nil (hK23 _ _ ?_)
               refine T.cond rfl (fun hc69 => ?_) (fun hc69 => ?_)
               ·have H := ifT hc69 H
                refine cq [] ?_
                refine T.seq fun K24 hK24 => T.region (rA rfl (RS.nil (hK24 _ _ ?_)))
                obtain rfl := hd6 _ H
                have H := HX6
                obtain rfl := sj H
                refine T.rt (Cont.ret1 rfl rfl fun w' s => ?_)
                exact ⟨rfl, s.ext⟩
               ·have H := ifB hc69 H
                refine T.skip (hK22 _ _ ?_)
                refine T.seq fun K25 hK25 => T.region (rp (Pu.fieldAddr fd39_0 rfl) (rq (Qt.ldBA (us := [_, _, _]) 1 ty36 rfl rfl rfl rfl) ?_))
                obtain ⟨x70, hx70, H⟩ := bindE H
                refine RS.solid (Sd.callN (vs := [.agg #[.int .i64 (((gi a0_p.l v8).g).w), .int .i64 (((gi a0_p.l v8).g).h), .slice p20 (((gi a0_p.l v8).g).tiles).length cc21]]) ent19 rfl (fun w s => throngref0_CopyGround_walk ((gi a0_p.l v8).g) w ((Rd.base hu17) w s) hx70)) rfl rfl fun q71 => RS.solid (Sd.alloc zr36 rfl) rfl rfl fun b72 => RS.solid (Sd.stB (cs' := [_, _, _]) 6 ty36 rfl rfl rfl rfl rfl rfl rfl rfl) rfl rfl fun _ => RS.nil (hK25 _ _ (cq [(1, _), (3, _), (4, _), (5, _), (12, _)] ?_))
                refine T.seq fun K26 hK26 => ?_
                try dsimp only [List.set, List.cons_append, List.nil_append]
                refine T.drawn (fun _ => True) [(0, .pu), (1, .rd), (2, .pu), (3, .rd), (4, .pu), (5, .rd), (6, .pu), (7, .rd), (8, .pu), (9, .br)] mixed (ClE.sat _ _) (by kernel_rfl) ?_
                refine dp rfl (Pu.fieldAddr fd36_2 rfl) (dq rfl (Qt.ldB 6 ty34 rfl rfl rfl) (dp rfl (Pu.fieldAddr fd25_3 rfl) (dq rfl (Qt.ldB 0 ty3 rfl rfl rfl) (dp rfl (Pu.fieldAddr fd36_2 rfl) (dq rfl (Qt.ldB 6 ty34 rfl rfl rfl) (dp rfl (Pu.lenSl sl34 rfl) ?_))))))
                obtain ⟨x73, hx73, H⟩ := bindE H
                refine dq rfl (Qt.call (vs := [.int .i64 a0_p.forget, .int .i64 (x70.tiles.length : Int)]) ent13 rfl fun w s => thronglaw0_Within_walk a0_p.forget (x70.tiles.length : Int) w  hx73) ?_
                obtain ⟨g74, H⟩ := gdE H
                refine RD.know (p := ∃ g cap, q71 = (some g, cap)) (fun w s => (s.row_some (k := 5) rfl (pos_of g74))) ?_
                rintro ⟨gg75, cc76, rfl⟩
                refine dp rfl (Pu.indexSl sl34 rfl rfl g74) (RD.solid rfl (.inr rfl) rfl rfl (Sd.st0 (α := UInt8) 5 (5 : UInt8) rfl ty5 rfl rfl rfl g74 rfl rfl (by decide) rfl (by rintro _ _ rfl; rfl)) (fun _ => ClE.sat _ _) (fun _ _ _ => trivial) (fun h => nomatch h) fun _ => ?_)
                refine RD.nil (hK26 _ _ (cq [(1, _), (3, _), (4, _), (5, _), (12, _)] ?_))
                refine T.seq fun K27 hK27 => ?_
                try dsimp only [List.set, List.cons_append, List.nil_append]
                refine T.region (rp (Pu.fieldAddr fd39_1 rfl) (rq (Qt.ldB 1 ty37 rfl rfl rfl) (rp (Pu.lenSl sl37 rfl) (rp (Pu.bin rfl rfl rfl) (RS.nil (hK27 _ _ ?_))))))
                refine T.condP rfl (fun hc77 => ?_) (fun hc77 => ?_)
                ·have H := ifT hc77 H
                 refine cq [(1, _), (3, _), (4, _), (5, _), (12, _)] ?_
                 refine T.seq fun K28 hK28 => ?_
                 try dsimp only [List.set, List.cons_append, List.nil_append]
                 refine T.weakS (S' := Sat w [blk b1 [.int .i64 a0_p.room, .slice (some ⟨bl12, ol13, none⟩) a0_p.l.length c0, .slice p1 a0_p.order.length c1, .int .i64 a0_p.forget] 25, blk b26 [.int .i64 (((gi a0_p.l v8).g).w), .int .i64 (((gi a0_p.l v8).g).h), .slice p20 (((gi a0_p.l v8).g).tiles).length cc21, .slice p22 ((gi a0_p.l v8).l).length cc23, .int .i64 ((gi a0_p.l v8).cls), .int .i64 ((gi a0_p.l v8).size), .slice (some ⟨bl49, ol50, none⟩) ((gi a0_p.l v8).ts).length cc25] 39, Fld_ch g32 x55.2.2, row nilH 3 (rowV q52 x51.1.length) x51.1, row nilH 3 (rowV q56 x55.1.length) x55.1, row nilH 5 (rowV (some gg75, cc76) x70.tiles.length) (si x70.tiles x73 (5 : UInt8)), blk b72 [.int .i64 x70.w, .int .i64 x70.h, rowV (some gg75, cc76) x70.tiles.length] 36]) (fun w s => s) ?_
                 refine T.drawnS [0, 1, 3, 4, 5, 6] [(0, .pu), (1, .rd), (2, .pu), (3, .rd), (4, .pu), (5, .rd), (6, .pu), (7, .wk), (8, .pu), (9, .rd), (10, .br), (11, .pu), (12, .pu), (13, .pu), (14, .pu), (15, .pu)] mixed (by kernel_rfl) rfl ?_
                 refine RD.p (fun w s => s.pick [0, 1, 3, 4, 5, 6] (by decide) rfl) rfl (Pu.move rfl) rfl rfl (RD.q (fun w s => s.pick [0, 1, 3, 4, 5, 6] (by decide) rfl) rfl (Qt.ldBA (us := [_, _, _]) 6 ty36 rfl rfl rfl rfl) rfl rfl (RD.p (fun w s => s.pick [0, 1, 3, 4, 5, 6] (by decide) rfl) rfl (Pu.fieldAddr fd39_2 rfl) rfl rfl (RD.q (fun w s => s.pick [0, 1, 3, 4, 5, 6] (by decide) rfl) rfl (Qt.ldB 1 ty3 rfl rfl rfl) rfl rfl (RD.p (fun w s => s.pick [0, 1, 3, 4, 5, 6] (by decide) rfl) rfl (Pu.fieldAddr fd39_3 rfl) rfl rfl (RD.q (fun w s => s.pick [0, 1, 3, 4, 5, 6] (by decide) rfl) rfl (Qt.ldB 1 ty3 rfl rfl rfl) rfl rfl (RD.p (fun w s => s.pick [0, 1, 3, 4, 5, 6] (by decide) rfl) rfl (Pu.fieldAddr fd39_4 rfl) rfl rfl ?_))))))
                 refine RD.w (fun w s => s.pick [0, 1, 3, 4, 5, 6] (by decide) rfl) rfl (Qt.ldB 1 ty23 rfl rfl rfl) rfl rfl ?_
                 obtain ⟨g78, H⟩ := gdE H
                 refine RD.p (fun w s => s.pick [0, 1, 3, 4, 5, 6] (by decide) rfl) rfl (Pu.indexSl sl23 rfl rfl g78) rfl rfl (RD.q (fun w s => s.pick [0, 1, 3, 4, 5, 6] (by decide) rfl) rfl (Qt.ld0 (α := Int) (Rd.base hu19) ty3 rfl rfl g78 (by rintro _ _ rfl; rfl)) rfl rfl ?_)
                 obtain ⟨x79, hx79, H⟩ := bindE H
                 refine RD.solid rfl (.inr rfl) rfl rfl (Sd.callF 2 ent18 rfl rfl (fun w s => fields_Dirs_walk g32 x55.2.2 (⟨x70.w, x70.h, (si x70.tiles x73 (5 : UInt8))⟩ : Grd) [] ((gi a0_p.l v8).cls) ((gi a0_p.l v8).size) (gi ((gi a0_p.l v8).ts) (0 : Int)) (Rd.rest 5 rfl (by decide) (Rd.ofRowN 0 rfl)) (Rd.nil (α := Bld)) hx79 w s)) (fun _ => ClE.sat _ _) (fun _ w s => s.pick [0, 1, 3, 4, 5, 6] (by decide) rfl) (fun h => nomatch h) fun q80 => ?_
                 refine RD.p (fun w s => s.pick [0, 1, 3, 4, 5, 6] (by decide) rfl) rfl (Pu.move rfl) rfl rfl (RD.p (fun w s => s.pick [0, 1, 3, 4, 5, 6] (by decide) rfl) rfl (Pu.extract rfl rfl) rfl rfl (RD.p (fun w s => s.pick [0, 1, 3, 4, 5, 6] (by decide) rfl) rfl (Pu.extract rfl rfl) rfl rfl (RD.p (fun w s => s.pick [0, 1, 3, 4, 5, 6] (by decide) rfl) rfl (Pu.assign rfl) rfl rfl (RD.p (fun w s => s.pick [0, 1, 3, 4, 5, 6] (by decide) rfl) rfl (Pu.assign rfl) rfl rfl (RD.nil (hK28 _ _ (cq [(1, _), (3, _), (14, _)] ?_)))))))
                 refine T.seq fun K29 hK29 => ?_
                 try dsimp only [List.set, List.cons_append, List.nil_append]
                 refine T.region (rM rfl ?_)
                 obtain ⟨x81, hx81, H⟩ := bindE H
                 refine rq (Qt.call (vs := [.int .i64 x79.2.1]) ent11 rfl fun w s => thronglaw18_num_walk x79.2.1 w  hx81) (rp (Pu.bin rfl rfl rfl) (RS.nil (hK29 _ _ ?_)))
                 refine T.condP rfl (fun hc82 => ?_) (fun hc82 => ?_)
                 ·have H := ifT hc82 H
                  refine cq [] ?_
                  refine T.seq fun K30 hK30 => T.region (rA rfl (RS.nil (hK30 _ _ ?_)))
                  obtain rfl := hd6 _ H
                  have H := HX6
                  obtain rfl := sj H
                  try dsimp only [List.set, List.cons_append, List.nil_append]
                  refine T.rt (Cont.ret1 rfl rfl fun w' s => ?_)
                  exact ⟨rfl, s.ext⟩
                 ·have H := ifF hc82 H
                  refine T.skip (hK10 _ _ (cq [(1, _), (3, _)] ?_))
                  try dsimp only [List.set, List.cons_append, List.nil_append]
                  refine T.region (rM rfl ?_)
                  obtain ⟨g83, H⟩ := gdE H
                  refine rp (Pu.addS rfl rfl g83) (rA rfl (RS.nil (hL6 _ _ (v8 + 1) () H ⟨rfl, trivial⟩ ⟨rfl, trivial⟩ (fun w s => s.pick [0] (by decide) rfl))))
                ·have H := ifF hc77 H
                 refine T.skip (hK10 _ _ (cq [(1, _), (3, _)] ?_))
                 try dsimp only [List.set, List.cons_append, List.nil_append]
                 refine T.region (rM rfl ?_)
                 obtain ⟨g84, H⟩ := gdE H
                 refine rp (Pu.addS rfl rfl g84) (rA rfl (RS.nil (hL6 _ _ (v8 + 1) () H ⟨rfl, trivial⟩ ⟨rfl, trivial⟩ (fun w s => s.pick [0] (by decide) rfl))))
              ·intro z85 H hJ67
               refine RS.splitP 135 rfl (fun hc66 => ?_) (fun hc66 => ?_)
               ·have H := ifT hc66 H
                refine ro (ro (ro (ro (rp (Pu.pickT rfl rfl) ?_))))
                obtain rfl := sj H
                exact hJ67 _ _ ⟨rfl, rfl, rfl, rfl, rfl, trivial⟩ (fun w s => s)
               ·have H := ifF hc66 H
                refine rM rfl (rM rfl ?_)
                obtain ⟨x86, hx86, H⟩ := bindE H
                refine rq (Qt.call (vs := [rowV q52 x51.1.length, rowV q56 x55.1.length]) ent20 rfl fun w s => throngref0_EqNumbers_walk x51.1 x55.1 w ((Rd.ofRowN 3 rfl) w s) ((Rd.ofRowN 4 rfl) w s) hx86) (rp (Pu.not rfl) (rp (Pu.pickF rfl rfl) ?_))
                obtain rfl := sj H
                exact hJ67 _ _ ⟨rfl, rfl, rfl, rfl, rfl, trivial⟩ (fun w s => s)
             ·intro hJ65
              refine RS.split 131 rfl (fun hc64 => ?_) (fun hc64 => ?_)
              ·refine ro (ro (rp (Pu.pickT rfl rfl) ?_))
               exact hJ65 _ _ ⟨dOrT hc64, rfl, rfl, rfl, rfl, rfl, rfl, trivial⟩ (fun w s => s)
              ·refine rM rfl (rp (Pu.bin rfl rfl rfl) (rp (Pu.pickF rfl rfl) ?_))
               exact hJ65 _ _ ⟨dOrF (bne_of hc64), rfl, rfl, rfl, rfl, rfl, rfl, trivial⟩ (fun w s => s)
            ·intro z87 H hJ62
             refine RS.split 125 rfl (fun hc61 => ?_) (fun hc61 => ?_)
             ·have H := ifT hc61 H
              refine ro (ro (ro (ro (rp (Pu.pickT rfl rfl) ?_))))
              obtain rfl := sj H
              exact hJ62 _ _ ⟨rfl, rfl, rfl, rfl, rfl, rfl, rfl, rfl, trivial⟩ (fun w s => s)
             ·have H := ifB hc61 H
              refine rM rfl ?_
              obtain ⟨x88, hx88, H⟩ := bindE H
              refine RS.solid (Sd.callF0 2 ent22 rfl rfl (fun w s => fields_Made_walk g32 x55.2.2  hx88 w s)) rfl rfl fun _ => rM rfl (rp (Pu.bin rfl rfl rfl) (rp (Pu.pickF rfl rfl) ?_))
              obtain rfl := sj H
              exact hJ62 _ _ ⟨rfl, rfl, rfl, rfl, rfl, rfl, rfl, rfl, trivial⟩ (fun w s => s)
           ·intro z89 H hJ59
            refine RS.splitP 120 rfl (fun hc58 => ?_) (fun hc58 => ?_)
            ·have H := ifT hc58 H
             refine ro (ro (ro (rp (Pu.pickT rfl rfl) ?_)))
             obtain rfl := sj H
             exact hJ59 _ _ ⟨rfl, rfl, rfl, rfl, rfl, rfl, rfl, rfl, trivial⟩ (fun w s => s)
            ·have H := ifF hc58 H
             refine rM rfl ?_
             obtain ⟨x90, hx90, H⟩ := bindE H
             refine rq (Qt.call (vs := [.int .i64 x55.2.1]) ent11 rfl fun w s => thronglaw18_num_walk x55.2.1 w  hx90) (rp (Pu.bin rfl rfl rfl) (rp (Pu.pickF rfl rfl) ?_))
             obtain rfl := sj H
             exact hJ59 _ _ ⟨rfl, rfl, rfl, rfl, rfl, rfl, rfl, rfl, trivial⟩ (fun w s => s)
         ·intro z91 H hJ44
          refine RD.splitP 71 rfl (fun hc43 => ?_) (fun hc43 => ?_)
          ·have H := ifT hc43 H
           refine dn rfl (dn rfl (dn rfl (dn rfl (dn rfl (dn rfl (dn rfl (dn rfl (dp rfl (Pu.pickT rfl rfl) ?_))))))))
           obtain rfl := sj H
           exact hJ44 _ ⟨rfl, rfl, rfl, rfl, rfl, trivial⟩
          ·have H := ifF hc43 H
           refine dp rfl (Pu.fieldAddr fd39_0 rfl) (dq rfl (Qt.ldBA (us := [_, _, _]) 1 ty36 rfl rfl rfl rfl) (dp rfl (Pu.fieldAddr fd39_4 rfl) (dq rfl (Qt.ldB 1 ty23 rfl rfl rfl) ?_)))
           obtain ⟨g92, H⟩ := gdE H
           obtain ⟨bl93, ol94, rfl⟩ := R_ptr hu19 (ne_of_pos (pos_of g92))
           refine dp rfl (Pu.indexSl sl23 rfl rfl g92) (dq rfl (Qt.ld0 (α := Int) (Rd.base hu19) ty3 rfl rfl g92 (by rintro _ _ rfl; rfl)) ?_)
           obtain ⟨x95, hx95, H⟩ := bindE H
           refine dq rfl (Qt.call (vs := [.agg #[.int .i64 (((gi a0_p.l v8).g).w), .int .i64 (((gi a0_p.l v8).g).h), .slice p20 (((gi a0_p.l v8).g).tiles).length cc21], .int .i64 (gi ((gi a0_p.l v8).ts) (0 : Int))]) ent15 rfl fun w s => throngref5_Tile_walk ((gi a0_p.l v8).g) (gi ((gi a0_p.l v8).ts) (0 : Int)) w ((Rd.base hu17) w s) hx95) (dp rfl (Pu.not rfl) (dp rfl (Pu.pickF rfl rfl) ?_))
           obtain rfl := sj H
           exact hJ44 _ ⟨rfl, rfl, rfl, rfl, rfl, trivial⟩
        ·intro hJ42
         refine RD.split 65 rfl (fun hc41 => ?_) (fun hc41 => ?_)
         ·refine dn rfl (dn rfl (dn rfl (dn rfl (dp rfl (Pu.pickT rfl rfl) ?_))))
          exact hJ42 _ ⟨dOrT hc41, rfl, rfl, rfl, rfl, trivial⟩
         ·refine dp rfl (Pu.fieldAddr fd39_4 rfl) (dq rfl (Qt.ldB 1 ty23 rfl rfl rfl) (dp rfl (Pu.lenSl sl23 rfl) (dp rfl (Pu.bin rfl rfl rfl) (dp rfl (Pu.pickF rfl rfl) ?_))))
          exact hJ42 _ ⟨dOrF (bne_of hc41), rfl, rfl, rfl, rfl, trivial⟩
     ·intro hJ35
      refine RS.splitP 46 rfl (fun hc34 => ?_) (fun hc34 => ?_)
      ·refine ro (ro (rp (Pu.pickT rfl rfl) ?_))
       exact hJ35 _ _ ⟨dOrT hc34, rfl, rfl, rfl, rfl, trivial⟩ (fun w s => s)
      ·refine rM rfl (rp (Pu.eqNilO ul27 rfl) (rp (Pu.pickF rfl rfl) ?_))
       exact hJ35 _ _ ⟨dOrFB hc34, rfl, rfl, rfl, rfl, trivial⟩ (fun w s => s)
    ·have H := ifF hc10 H
     obtain rfl := hd6 _ H
     refine T.xt (hJ6 _ _ () () HX6 trivial trivial (fun w s => s))
 ·intro hJ4
  refine RS.split 17 rfl (fun hc3 => ?_) (fun hc3 => ?_)
  ·refine ro (ro (ro (ro (rp (Pu.pickT rfl rfl) ?_))))
   exact hJ4 _ _ ⟨dOrT hc3, rfl, trivial⟩ (fun w s => s)
  ·refine rp (Pu.fieldAddr fd25_1 rfl) (rq (Qt.ldB 0 ty22 rfl rfl rfl) (rp (Pu.lenSl sl22 rfl) (rp (Pu.bin rfl rfl rfl) (rp (Pu.pickF rfl rfl) ?_))))
   exact hJ4 _ _ ⟨dOrF (bne_of hc3), rfl, trivial⟩ (fun w s => s)
end Go.Proofs.YthdbofgcckjopaaGreat
