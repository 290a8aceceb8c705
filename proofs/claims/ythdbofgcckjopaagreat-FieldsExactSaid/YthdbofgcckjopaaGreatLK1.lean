/-
  Walk of FieldsExact.
-/
import Derived.Test.YthdbofgcckjopaaGreatRows
import Derived.Test.YthdbofgcckjopaaGreatW3
import Derived.Test.YthdbofgcckjopaaGreatLJ
import Derived.Test.YthdbofgcckjopaaGreatLG1
set_option linter.unusedVariables false
set_option linter.unusedSimpArgs false
set_option maxRecDepth 20000
set_option maxHeartbeats 4000000
namespace Go.Proofs.YthdbofgcckjopaaGreat
open Go.Vg
open Enc (R)
theorem ent10 : Ent Tryz.prog 10 := ⟨_, _, Tryz.func10, by kernel_rfl, rfl⟩
theorem ent12 : Ent Tryz.prog 12 := ⟨_, _, Tryz.func12, by kernel_rfl, rfl⟩
theorem ent13 : Ent Tryz.prog 13 := ⟨_, _, Tryz.func13, by kernel_rfl, rfl⟩
theorem ent14 : Ent Tryz.prog 14 := ⟨_, _, Tryz.func14, by kernel_rfl, rfl⟩
theorem ent15 : Ent Tryz.prog 15 := ⟨_, _, Tryz.func15, by kernel_rfl, rfl⟩
theorem ent16 : Ent Tryz.prog 16 := ⟨_, _, Tryz.func16, by kernel_rfl, rfl⟩
theorem ent19 : Ent Tryz.prog 19 := ⟨_, _, Tryz.func19, by kernel_rfl, rfl⟩
theorem ent21 : Ent Tryz.prog 21 := ⟨_, _, Tryz.func21, by kernel_rfl, rfl⟩
theorem ent8 : Ent Tryz.prog 8 := ⟨_, _, Tryz.func8, by kernel_rfl, rfl⟩
theorem fd25_0 : fdOff Tryz.prog 25 0 = some 0 := by kernel_rfl
theorem fd25_3 : fdOff Tryz.prog 25 3 = some 3 := by kernel_rfl
theorem fd39_2 : fdOff Tryz.prog 39 2 = some 4 := by kernel_rfl
theorem fd39_3 : fdOff Tryz.prog 39 3 = some 5 := by kernel_rfl
theorem ty25 : tySz Tryz.prog 25 = some (4, true) := by kernel_rfl
theorem zr39 : zeroOf Tryz.prog 39 = some (.agg #[.int .i64 0, .int .i64 0, .slice none 0 0, .slice none 0 0, .int .i64 0, .int .i64 0, .slice none 0 0]) := by kernel_rfl
theorem thronglaw18_FieldsExact_walk (a0_p : Scr18) (w : World) {v0 v1 : Value} (h0 : R (hpOf w) a0_p.l [v0]) (h1 : R (hpOf w) a0_p.order [v1]) {r : Bool} (H : thronglaw18_FieldsExact a0_p = some r) : Calls Tryz.prog 3 #[.agg #[.int .i64 a0_p.room, v0, v1, .int .i64 a0_p.forget]] w fun e w' => e = .returned (.bool r) ∧ Ext w w' := by
 have hm0 := R_max h0
 obtain ⟨p0, c0, rfl⟩ := R_form h0
 have hm1 := R_max h1
 obtain ⟨p1, c1, rfl⟩ := R_form h1
 unfold thronglaw18_FieldsExact at H
 refine T.enter (args := [_]) (S := Sat w []) Tryz.func3 rfl rfl (Sat.start w) ?_
 refine T.seq fun K1 hK1 => T.region (RS.solid (Sd.box (cs := [_, _, _, _]) rfl rfl) rfl rfl fun b1 => rA rfl (RS.nil (hK1 _ _ ?_)))
 refine T.seq fun K2 hK2 => T.seq fun K3 hK3 => T.region (rq (Qt.ldBA (us := [_, _, _, _]) 0 ty25 rfl rfl rfl rfl) ?_)
 obtain ⟨x2, hx2, H⟩ := bindE H
 refine rq (Qt.call (vs := [.agg #[.int .i64 a0_p.room, .slice p0 a0_p.l.length c0, .slice p1 a0_p.order.length c1, .int .i64 a0_p.forget]]) ent8 rfl fun w s => thronglaw18_heavy_walk a0_p w ((Rd.base h0) w s) ((Rd.base h1) w s) hx2) (RS.nil (hK3 _ _ ?_))
 refine T.cond rfl (fun hc3 => ?_) (fun hc3 => ?_)
 ·have H := ifT hc3 H
  refine cq [] ?_
  refine T.seq fun K4 hK4 => T.region (rA rfl (RS.nil (hK4 _ _ ?_)))
  obtain rfl := sj H
  refine T.rt (Cont.ret1 rfl rfl fun w' s => ?_)
  exact ⟨rfl, s.ext⟩
 ·have H := ifB hc3 H
  refine T.skip (hK2 _ _ (cq [(1, _)] ?_))
  refine T.seq fun K5 hK5 => T.region (rp (Pu.fieldAddr fd25_0 rfl) (rq (Qt.ldB 0 ty3 rfl rfl rfl) ?_))
  obtain ⟨x4, hx4, H⟩ := bindE H
  obtain ⟨o5, o6⟩ := x4
  dsimp only at H
  refine RS.solid (Sd.callN (vs := [.int .i64 a0_p.room]) ent9 rfl (fun w s => fields_New_walk a0_p.room w  hx4)) rfl rfl fun g7 => rM rfl (rp (Pu.extract rfl rfl) (rp (Pu.extract rfl rfl) (rA rfl (rA rfl (RS.nil (hK5 _ _ (cq [(1, _), (3, _), (4, _)] ?_)))))))
  refine T.seq fun K6 hK6 => T.seq fun K7 hK7 => T.region (rp (Pu.fieldAddr fd25_0 rfl) (rq (Qt.ldB 0 ty3 rfl rfl rfl) ?_))
  obtain ⟨x8, hx8, H⟩ := bindE H
  refine rq (Qt.call (vs := [.int .i64 a0_p.room]) ent10 rfl fun w s => throngref15_Room_walk a0_p.room w  hx8) (rM rfl ?_)
  obtain ⟨x9, hx9, H⟩ := bindE H
  refine rq (Qt.call (vs := [.int .i64 o6]) ent11 rfl fun w s => thronglaw18_num_walk o6 w  hx9) (rp (Pu.bin rfl rfl rfl) (rp (Pu.neB ul4 rfl rfl) (rM rfl ?_)))
  refine RS.joinB H 7 34 (fun b12 => .bool b12) [(1, _), (3, _)] ⟨rfl, rfl, trivial⟩ ?_ ?_
  ·intro b12 H
   refine RS.nil (hK7 _ _ ?_)
   refine T.cond rfl (fun hc13 => ?_) (fun hc13 => ?_)
   ·have H := ifT hc13 H
    refine cq [] ?_
    refine T.seq fun K8 hK8 => T.region (rA rfl (RS.nil (hK8 _ _ ?_)))
    obtain rfl := sj H
    refine T.rt (Cont.ret1 rfl rfl fun w' s => ?_)
    exact ⟨rfl, s.ext⟩
   ·have H := ifB hc13 H
    refine T.skip (hK6 _ _ ?_)
    refine T.seq fun K9 hK9 => T.seq fun K10 hK10 => T.region (rM rfl (rp (Pu.eqNilO ul27 rfl) (rM rfl ?_)))
    refine RS.joinV 5 42 (.bool (decide ((o5.isNone = true) ∨ ((a0_p.l.length : Int) = 0)))) [(1, _), (3, _)] ⟨rfl, rfl, trivial⟩ ?_ ?_
    ·refine RS.nil (hK10 _ _ ?_)
     refine T.condP rfl (fun hc16 => ?_) (fun hc16 => ?_)
     ·have H := ifT hc16 H
      refine cq [] ?_
      refine T.seq fun K11 hK11 => T.region ?_
      obtain ⟨x17, hx17, H⟩ := bindE H
      refine rq (Qt.call (vs := []) ent12 rfl fun w s => thronglaw18_wakes_walk  w  hx17) (rA rfl (RS.nil (hK11 _ _ ?_)))
      obtain rfl := sj H
      refine T.rt (Cont.ret1 rfl rfl fun w' s => ?_)
      exact ⟨rfl, s.ext⟩
     ·have H := ifF hc16 H
      obtain ⟨z18, hz18, HZz18⟩ := bindE H
      subst hz18
      have H := HZz18
      refine T.weakS (fun w s => s.optSome (C := Fld_ch) 1 rfl) ?_
      refine T.skip (hK9 _ _ ?_)
      refine T.seq fun K12 hK12 => T.seq fun K13 hK13 => T.region (rA rfl (RS.nil (hK13 _ _ ?_)))
      refine T.joinE (σ := Fld) (γ := Unit) H Ex.go [] trivial (fun v20 _ => []) (fun v20 _ => Sat w [blk b1 [.int .i64 a0_p.room, .slice p0 a0_p.l.length c0, .slice p1 a0_p.order.length c1, .int .i64 a0_p.forget] 25, Fld_ch g7 v20]) ?_ ?_
      ·rintro v20 ⟨⟩ H
       try dsimp only [Ex.then] at H
       refine Cont.conseq (fr' := []) ?_ trivial (fun _ s => s)
       refine id (hK12 _ _ ?_)
       refine T.seq fun K14 hK14 => T.region ?_
       obtain ⟨x21, hx21, H⟩ := bindE H
       refine rq (Qt.call (vs := []) ent12 rfl fun w s => thronglaw18_wakes_walk  w  hx21) (rA rfl (RS.nil (hK14 _ _ ?_)))
       obtain rfl := sj H
       refine T.rt (Cont.ret1 rfl rfl fun w' s => ?_)
       exact ⟨rfl, s.ext⟩
      ·intro z19 hz19 HX19 hJ19
       refine T.block ?_
       refine T.loopA (γ := Unit) hz19 [(1, _), (3, _)] (fun (v22, v23) _ => [(5, .int .i64 v22)]) (fun (v22, v23) _ => Sat w [blk b1 [.int .i64 a0_p.room, .slice p0 a0_p.l.length c0, .slice p1 a0_p.order.length c1, .int .i64 a0_p.forget] 25, Fld_ch g7 v23]) () ⟨rfl, rfl, trivial⟩ ⟨rfl, trivial⟩ (fun w s => s) ?_
       rintro ⟨v22, v23⟩ ⟨⟩ y24 H hd19 KL19 hL19
       try dsimp only [Ex.then] at H
       refine cq [(5, _), (1, _), (3, _)] ?_
       refine T.seq fun K15 hK15 => T.seq fun K16 hK16 => T.region (rM rfl (rp (Pu.fieldAddr fd25_2 rfl) (rq (Qt.ldB 0 ty23 rfl rfl rfl) (rp (Pu.lenSl sl23 rfl) (rp (Pu.bin rfl rfl rfl) (rM rfl ?_))))))
       refine RS.joinV 3 52 (.bool (decide ((v22 < (a0_p.order.length : Int)) ∧ (v22 < 16)))) [(1, _), (3, _), (5, _)] ⟨rfl, rfl, rfl, trivial⟩ ?_ ?_
       ·refine RS.nil (hK16 _ _ ?_)
        refine T.condP rfl (fun hc27 => ?_) (fun hc27 => ?_)
        ·have H := ifT hc27 H
         refine T.skip (hK15 _ _ ?_)
         refine T.seq fun K17 hK17 => T.block (T.seq fun K18 hK18 => ?_)
         refine T.drawn (fun _ => True) [(0, .pu), (1, .rd), (2, .pu), (3, .rd), (4, .pu), (5, .pu), (6, .rd), (7, .pu), (8, .rd), (9, .pu), (10, .rd), (11, .pu), (12, .rd), (13, .so), (14, .br)] mixed (ClE.sat _ _) (by kernel_rfl) ?_
         refine dp rfl (Pu.fieldAddr fd25_1 rfl) (dq rfl (Qt.ldB 0 ty22 rfl rfl rfl) (dp rfl (Pu.fieldAddr fd25_2 rfl) (dq rfl (Qt.ldB 0 ty23 rfl rfl rfl) (dp rfl (Pu.move rfl) ?_))))
         obtain ⟨g28, H⟩ := gdE H
         obtain ⟨bl29, ol30, rfl⟩ := R_ptr h1 (ne_of_pos (pos_of g28))
         refine dp rfl (Pu.indexSl sl23 rfl rfl g28) (dq rfl (Qt.ld0 (α := Int) (Rd.base h1) ty3 rfl rfl g28 (by rintro _ _ rfl; rfl)) (dp rfl (Pu.fieldAddr fd25_1 rfl) (dq rfl (Qt.ldB 0 ty22 rfl rfl rfl) (dp rfl (Pu.lenSl sl22 rfl) ?_))))
         obtain ⟨x31, hx31, H⟩ := bindE H
         refine dq rfl (Qt.call (vs := [.int .i64 (gi a0_p.order v22), .int .i64 (a0_p.l.length : Int)]) ent13 rfl fun w s => thronglaw0_Within_walk (gi a0_p.order v22) (a0_p.l.length : Int) w  hx31) ?_
         obtain ⟨g32, H⟩ := gdE H
         obtain ⟨bl33, ol34, rfl⟩ := R_ptr h0 (ne_of_pos (pos_of g32))
         refine dp rfl (Pu.indexSl sl22 rfl rfl g32) ?_
         obtain ⟨c35, hc36, ha37⟩ := R_el (α := Ask13) h0 g32
         obtain ⟨u38, u39, u40, rfl, hu38, hu39, hu40⟩ := hc36
         obtain ⟨p41, cc42, rfl⟩ := R_form hu38
         obtain ⟨p43, cc44, rfl⟩ := R_form hu39
         obtain ⟨p45, cc46, rfl⟩ := R_form hu40
         refine dq rfl (Qt.ldZ (cs := [_, _, _, _, _, _, _]) ty39 rfl ha37 Held.base rfl) (RD.solid rfl (.inl rfl) rfl rfl (Sd.alloc zr39 rfl) (fun _ => ClE.sat _ _) (fun _ _ _ => trivial) (fun _ _ _ s => s.drop1) fun b47 => ?_)
         refine RD.solid rfl (.inr rfl) rfl rfl (Sd.stB (cs' := [_, _, _, _, _, _, _]) 2 ty39 rfl rfl rfl rfl rfl rfl rfl rfl) (fun _ => ClE.sat _ _) (fun _ _ _ => trivial) (fun h => nomatch h) fun _ => ?_
         refine RD.nil (hK18 _ _ (cq [(1, _), (3, _), (5, _), (6, _)] ?_))
         refine T.seq fun K19 hK19 => T.region (rA rfl (RS.nil (hK19 _ _ ?_)))
         refine T.seq fun K20 hK20 => T.seq fun K21 hK21 => T.region (rp (Pu.fieldAddr fd39_4 rfl) (rq (Qt.ldB 2 ty23 rfl rfl rfl) (rp (Pu.lenSl sl23 rfl) (rp (Pu.bin rfl rfl rfl) (RS.nil (hK21 _ _ ?_))))))
         refine T.joinE (σ := Int) (γ := Unit) H (fun s => s) [(1, _), (3, _), (5, _), (6, _)] ⟨rfl, rfl, rfl, rfl, trivial⟩ (fun v49 _ => [(7, .int .i64 v49)]) (fun v49 _ => Sat w [blk b1 [.int .i64 a0_p.room, .slice (some ⟨bl33, ol34, none⟩) a0_p.l.length c0, .slice (some ⟨bl29, ol30, none⟩) a0_p.order.length c1, .int .i64 a0_p.forget] 25, Fld_ch g7 v23, blk b47 [.int .i64 (((gi a0_p.l x31).g).w), .int .i64 (((gi a0_p.l x31).g).h), .slice p41 (((gi a0_p.l x31).g).tiles).length cc42, .slice p43 ((gi a0_p.l x31).l).length cc44, .int .i64 ((gi a0_p.l x31).cls), .int .i64 ((gi a0_p.l x31).size), .slice p45 ((gi a0_p.l x31).ts).length cc46] 39]) ?_ ?_
         ·rintro v49 ⟨⟩ H
          try dsimp only [Ex.then] at H
          refine Cont.conseq (fr' := [(7, _), (1, _), (3, _), (5, _), (6, _)]) ?_ ⟨rfl, rfl, rfl, rfl, rfl, trivial⟩ (fun _ s => s)
          refine id (hK20 _ _ ?_)
          refine T.seq fun K22 hK22 => T.region (rA rfl (rA rfl (RS.nil (hK22 _ _ ?_))))
          refine T.seq fun K23 hK23 => T.seq fun K24 hK24 => T.region (rp (Pu.fieldAddr fd39_0 rfl) (rq (Qt.ldBA (us := [_, _, _]) 2 ty36 rfl rfl rfl rfl) (rp (Pu.fieldAddr fd39_1 rfl) (rq (Qt.ldB 2 ty37 rfl rfl rfl) (rp (Pu.fieldAddr fd39_2 rfl) (rq (Qt.ldB 2 ty3 rfl rfl rfl) (rp (Pu.fieldAddr fd39_3 rfl) (rq (Qt.ldB 2 ty3 rfl rfl rfl) ?_))))))))
          obtain ⟨x50, hx50, H⟩ := bindE H
          refine rq (Qt.call (vs := [.agg #[.int .i64 (((gi a0_p.l x31).g).w), .int .i64 (((gi a0_p.l x31).g).h), .slice p41 (((gi a0_p.l x31).g).tiles).length cc42], .slice p43 ((gi a0_p.l x31).l).length cc44, .int .i64 ((gi a0_p.l x31).cls), .int .i64 ((gi a0_p.l x31).size)]) ent14 rfl fun w s => throngref13_May_walk ((gi a0_p.l x31).g) ((gi a0_p.l x31).l) ((gi a0_p.l x31).cls) ((gi a0_p.l x31).size) w ((Rd.base hu38) w s) ((Rd.base hu39) w s) hx50) (RS.nil (hK24 _ _ ?_))
          refine T.joinE (σ := Int × List Int) (γ := (Option Nat × Nat)) H (fun s => s) [(1, _), (3, _), (5, _), (6, _), (7, _)] ⟨rfl, rfl, rfl, rfl, rfl, trivial⟩ (fun (v52, v53) q54 => [(8, .int .i64 v52), (9, rowV q54 v53.length)]) (fun (v52, v53) q54 => Sat w [blk b1 [.int .i64 a0_p.room, .slice (some ⟨bl33, ol34, none⟩) a0_p.l.length c0, .slice (some ⟨bl29, ol30, none⟩) a0_p.order.length c1, .int .i64 a0_p.forget] 25, Fld_ch g7 v23, blk b47 [.int .i64 (((gi a0_p.l x31).g).w), .int .i64 (((gi a0_p.l x31).g).h), .slice p41 (((gi a0_p.l x31).g).tiles).length cc42, .slice p43 ((gi a0_p.l x31).l).length cc44, .int .i64 ((gi a0_p.l x31).cls), .int .i64 ((gi a0_p.l x31).size), .slice p45 ((gi a0_p.l x31).ts).length cc46] 39, row nilH 3 (rowV q54 v53.length) v53]) ?_ ?_
          ·rintro ⟨v52, v53⟩ q54 H
           try dsimp only [Ex.then] at H
           refine Cont.conseq (fr' := [(8, _), (9, _), (1, _), (3, _), (5, _), (6, _), (7, _)]) ?_ ⟨rfl, rfl, rfl, rfl, rfl, rfl, rfl, trivial⟩ (fun _ s => s)
           refine id (hK23 _ _ ?_)
           refine T.seq fun K25 hK25 => T.seq fun K26 hK26 => T.region (rM rfl (rp (Pu.fieldAddr fd25_3 rfl) (rq (Qt.ldB 0 ty3 rfl rfl rfl) (rp (Pu.bin rfl rfl rfl) (RS.nil (hK26 _ _ ?_))))))
           refine T.joinE (σ := Fld) (γ := Unit) H (fun s => s) [(1, _), (3, _), (5, _), (6, _), (7, _), (8, _), (9, _)] ⟨rfl, rfl, rfl, rfl, rfl, rfl, rfl, trivial⟩ (fun v56 _ => []) (fun v56 _ => Sat w [blk b1 [.int .i64 a0_p.room, .slice (some ⟨bl33, ol34, none⟩) a0_p.l.length c0, .slice (some ⟨bl29, ol30, none⟩) a0_p.order.length c1, .int .i64 a0_p.forget] 25, Fld_ch g7 v56, blk b47 [.int .i64 (((gi a0_p.l x31).g).w), .int .i64 (((gi a0_p.l x31).g).h), .slice p41 (((gi a0_p.l x31).g).tiles).length cc42, .slice p43 ((gi a0_p.l x31).l).length cc44, .int .i64 ((gi a0_p.l x31).cls), .int .i64 ((gi a0_p.l x31).size), .slice p45 ((gi a0_p.l x31).ts).length cc46] 39, row nilH 3 (rowV q54 v53.length) v53]) ?_ ?_
           ·rintro v56 ⟨⟩ H
            try dsimp only [Ex.then] at H
            refine Cont.conseq (fr' := [(1, _), (3, _), (5, _), (6, _), (7, _), (8, _), (9, _)]) ?_ ⟨rfl, rfl, rfl, rfl, rfl, rfl, rfl, trivial⟩ (fun _ s => s)
            refine id (hK25 _ _ ?_)
            refine T.seq fun K27 hK27 => ?_
            refine T.drawnS [0, 2, 3] [(0, .pu), (1, .pu), (2, .wk), (4, .pu), (5, .rd), (6, .pu), (7, .rd), (8, .pu), (9, .rd), (10, .pu), (3, .so), (11, .br), (12, .pu), (13, .pu), (14, .pu), (15, .pu), (16, .pu)] mixed (by kernel_rfl) rfl ?_
            refine RD.p (fun w s => s.pick [0, 2, 3] (by decide) rfl) rfl (Pu.move rfl) rfl rfl (RD.p (fun w s => s.pick [0, 2, 3] (by decide) rfl) rfl (Pu.fieldAddr fd39_0 rfl) rfl rfl ?_)
            refine RD.w (fun w s => s.pick [0, 2, 3] (by decide) rfl) rfl (Qt.ldBA (us := [_, _, _]) 1 ty36 rfl rfl rfl rfl) rfl rfl ?_
            refine RD.p (fun w s => s.pick [0, 2, 3] (by decide) rfl) rfl (Pu.fieldAddr fd39_1 rfl) rfl rfl (RD.q (fun w s => s.pick [0, 2, 3] (by decide) rfl) rfl (Qt.ldB 2 ty37 rfl rfl rfl) rfl rfl (RD.p (fun w s => s.pick [0, 2, 3] (by decide) rfl) rfl (Pu.fieldAddr fd39_2 rfl) rfl rfl (RD.q (fun w s => s.pick [0, 2, 3] (by decide) rfl) rfl (Qt.ldB 2 ty3 rfl rfl rfl) rfl rfl (RD.p (fun w s => s.pick [0, 2, 3] (by decide) rfl) rfl (Pu.fieldAddr fd39_3 rfl) rfl rfl (RD.q (fun w s => s.pick [0, 2, 3] (by decide) rfl) rfl (Qt.ldB 2 ty3 rfl rfl rfl) rfl rfl (RD.p (fun w s => s.pick [0, 2, 3] (by decide) rfl) rfl (Pu.move rfl) rfl rfl ?_))))))
            obtain ⟨x57, hx57, H⟩ := bindE H
            refine RD.solid rfl (.inl rfl) rfl rfl (Sd.callN (vs := [.agg #[.int .i64 (((gi a0_p.l x31).g).w), .int .i64 (((gi a0_p.l x31).g).h), .slice p41 (((gi a0_p.l x31).g).tiles).length cc42]]) ent19 rfl (fun w s => throngref0_CopyGround_walk ((gi a0_p.l x31).g) w ((Rd.base hu38) w s) hx57)) (fun _ => ClE.sat _ _) (fun _ w s => s.pick [0, 2, 3] (by decide) rfl) (fun _ _ _ s => s.drop1) fun q58 => ?_
            obtain ⟨x59, hx59, H⟩ := bindE H
            refine RD.solid rfl (.inr rfl) rfl rfl (Sd.callF 1 ent18 rfl rfl (fun w s => fields_Dirs_walk g7 v56 x57 ((gi a0_p.l x31).l) ((gi a0_p.l x31).cls) ((gi a0_p.l x31).size) v49 (Rd.rest 4 rfl (by decide) (Rd.ofRowN 0 rfl)) (Rd.base hu39) hx59 w s)) (fun _ => ClE.sat _ _) (fun _ w s => s.pick [0, 2, 3] (by decide) rfl) (fun h => nomatch h) fun q60 => ?_
            refine RD.p (fun w s => s.pick [0, 2, 3] (by decide) rfl) rfl (Pu.move rfl) rfl rfl (RD.p (fun w s => s.pick [0, 2, 3] (by decide) rfl) rfl (Pu.extract rfl rfl) rfl rfl (RD.p (fun w s => s.pick [0, 2, 3] (by decide) rfl) rfl (Pu.extract rfl rfl) rfl rfl (RD.p (fun w s => s.pick [0, 2, 3] (by decide) rfl) rfl (Pu.assign rfl) rfl rfl (RD.p (fun w s => s.pick [0, 2, 3] (by decide) rfl) rfl (Pu.assign rfl) rfl rfl (RD.nil (hK27 _ _ (cq [(1, _), (3, _), (5, _), (8, _), (9, _), (10, _), (11, _)] ?_)))))))
            refine T.seq fun K28 hK28 => T.seq fun K29 hK29 => T.region (rM rfl ?_)
            obtain ⟨x61, hx61, H⟩ := bindE H
            refine rq (Qt.call (vs := [.int .i64 x59.2.1]) ent11 rfl fun w s => thronglaw18_num_walk x59.2.1 w  hx61) (rM rfl (rp (Pu.bin rfl rfl rfl) (rM rfl ?_)))
            refine RS.joinB H 5 139 (fun b64 => .bool b64) [(1, _), (3, _), (5, _), (10, _)] ⟨rfl, rfl, rfl, rfl, trivial⟩ ?_ ?_
            ·intro b64 H
             refine RS.nil (hK29 _ _ ?_)
             refine T.cond rfl (fun hc65 => ?_) (fun hc65 => ?_)
             ·have H := ifT hc65 H
              refine cq [] ?_
              refine T.seq fun K30 hK30 => T.region (rA rfl (RS.nil (hK30 _ _ ?_)))
              obtain rfl := hd19 _ H
              have H := HX19
              obtain rfl := sj H
              refine T.rt (Cont.ret1 rfl rfl fun w' s => ?_)
              exact ⟨rfl, s.ext⟩
             ·have H := ifB hc65 H
              refine T.skip (hK28 _ _ ?_)
              refine T.region (rM rfl ?_)
              obtain ⟨x66, hx66, H⟩ := bindE H
              refine RS.solid (Sd.callF0 (vs := [rowV q60 x59.1.length]) (C' := dead) (v := .tuple #[]) 5 ent21 rfl rfl (fun w s => thronglaw0_Numbers_walk x59.1 rfl  hx66 w s)) rfl rfl fun _ => RS.nil (hK17 _ _ (cq [(1, _), (3, _), (5, _)] ?_))
              refine T.region (rM rfl ?_)
              obtain ⟨g67, H⟩ := gdE H
              refine rp (Pu.addS rfl rfl g67) (rA rfl (RS.nil (hL19 _ _ ((v22 + 1), x59.2.2) () H ⟨rfl, rfl, trivial⟩ ⟨rfl, trivial⟩ (fun w s => s.pick [0, 1] (by decide) rfl))))
            ·intro z68 H hJ63
             refine RS.splitP 134 rfl (fun hc62 => ?_) (fun hc62 => ?_)
             ·have H := ifT hc62 H
              refine ro (ro (ro (ro (rp (Pu.pickT rfl rfl) ?_))))
              obtain rfl := sj H
              exact hJ63 _ _ ⟨rfl, rfl, rfl, rfl, rfl, trivial⟩ (fun w s => s)
             ·have H := ifF hc62 H
              refine rM rfl (rM rfl ?_)
              obtain ⟨x69, hx69, H⟩ := bindE H
              refine rq (Qt.call (vs := [rowV q60 x59.1.length, rowV q54 v53.length]) ent20 rfl fun w s => throngref0_EqNumbers_walk x59.1 v53 w ((Rd.ofRowN 5 rfl) w s) ((Rd.ofRowN 3 rfl) w s) hx69) (rp (Pu.not rfl) (rp (Pu.pickF rfl rfl) ?_))
              obtain rfl := sj H
              exact hJ63 _ _ ⟨rfl, rfl, rfl, rfl, rfl, trivial⟩ (fun w s => s)
           ·intro z55 H HX55 hJ55
            refine T.condP rfl (fun hc70 => ?_) (fun hc70 => ?_)
            ·have H := ifT hc70 H
             refine cq [(1, _), (3, _), (5, _), (6, _), (7, _), (8, _), (9, _)] ?_
             refine T.region (rM rfl ?_)
             obtain ⟨x71, hx71, H⟩ := bindE H
             refine RS.solid (Sd.callF0 1 ent17 rfl rfl (fun w s => fields_Forget_objwalk g7 v23  hx71 w s)) rfl rfl fun _ => ?_
             obtain rfl := sj H
             refine RS.nil (hJ55 _ _ x71 () HX55 ⟨rfl, rfl, rfl, rfl, rfl, rfl, rfl, trivial⟩ trivial (fun w s => s))
            ·have H := ifF hc70 H
             obtain rfl := sj H
             refine T.skip (hJ55 _ _ v23 () HX55 ⟨rfl, rfl, rfl, rfl, rfl, rfl, rfl, trivial⟩ trivial (fun w s => s))
          ·intro z51 H HX51 hJ51
           refine T.cond rfl (fun hc72 => ?_) (fun hc72 => ?_)
           ·have H := ifT hc72 H
            refine cq [(1, _), (3, _), (5, _), (6, _), (7, _), (9, _)] ?_
            refine T.seq fun K31 hK31 => T.region (rA rfl (RS.nil (hK31 _ _ ?_)))
            refine T.seq fun K32 hK32 => T.region (rp (Pu.fieldAddr fd39_0 rfl) (rq (Qt.ldBA (us := [_, _, _]) 2 ty36 rfl rfl rfl rfl) (rM rfl ?_)))
            obtain ⟨x73, hx73, H⟩ := bindE H
            refine rq (Qt.call (vs := [.agg #[.int .i64 (((gi a0_p.l x31).g).w), .int .i64 (((gi a0_p.l x31).g).h), .slice p41 (((gi a0_p.l x31).g).tiles).length cc42], .int .i64 v49]) ent15 rfl fun w s => throngref5_Tile_walk ((gi a0_p.l x31).g) v49 w ((Rd.base hu38) w s) hx73) (RS.nil (hK32 _ _ ?_))
            refine T.cond rfl (fun hc74 => ?_) (fun hc74 => ?_)
            ·have H := ifT hc74 H
             refine cq [(1, _), (3, _), (5, _), (6, _), (7, _)] ?_
             refine T.region (rp (Pu.fieldAddr fd39_0 rfl) (rq (Qt.ldBA (us := [_, _, _]) 2 ty36 rfl rfl rfl rfl) (rp (Pu.fieldAddr fd39_1 rfl) (rq (Qt.ldB 2 ty37 rfl rfl rfl) (rp (Pu.fieldAddr fd39_2 rfl) (rq (Qt.ldB 2 ty3 rfl rfl rfl) (rp (Pu.fieldAddr fd39_3 rfl) (rq (Qt.ldB 2 ty3 rfl rfl rfl) (rM rfl ?_)))))))))
             obtain ⟨x75, hx75, H⟩ := bindE H
             refine RS.solid (Sd.callN (vs := [.agg #[.int .i64 (((gi a0_p.l x31).g).w), .int .i64 (((gi a0_p.l x31).g).h), .slice p41 (((gi a0_p.l x31).g).tiles).length cc42], .slice p43 ((gi a0_p.l x31).l).length cc44, .int .i64 ((gi a0_p.l x31).cls), .int .i64 ((gi a0_p.l x31).size), .int .i64 v49]) ent16 rfl (fun w s => throngref13_Dirs_walk ((gi a0_p.l x31).g) ((gi a0_p.l x31).l) ((gi a0_p.l x31).cls) ((gi a0_p.l x31).size) v49 w ((Rd.base hu38) w s) ((Rd.base hu39) w s) hx75)) rfl rfl fun q76 => rA rfl (rA rfl ?_)
             obtain rfl := sj H
             refine RS.nil (hJ51 _ _ (0, x75) q76 HX51 ⟨rfl, rfl, rfl, rfl, rfl, trivial⟩ ⟨rfl, rfl, trivial⟩ (fun w s => s))
            ·have H := ifB hc74 H
             obtain rfl := sj H
             refine T.skip (hJ51 _ _ (3, []) (none, 0) HX51 ⟨rfl, rfl, rfl, rfl, rfl, trivial⟩ ⟨rfl, rfl, trivial⟩ (fun w s => (s.nilRow (α := Int) 3).pick [0, 1, 2, 3] (by decide) rfl))
           ·have H := ifB hc72 H
            obtain rfl := sj H
            refine T.skip (hJ51 _ _ (1, []) (none, 0) HX51 ⟨rfl, rfl, rfl, rfl, rfl, trivial⟩ ⟨rfl, rfl, trivial⟩ (fun w s => (s.nilRow (α := Int) 3).pick [0, 1, 2, 3] (by decide) rfl))
         ·intro z48 H HX48 hJ48
          refine T.condP rfl (fun hc77 => ?_) (fun hc77 => ?_)
          ·have H := ifT hc77 H
           refine cq [(1, _), (3, _), (5, _), (6, _)] ?_
           refine T.drawn (fun _ => True) [(0, .pu), (1, .rd), (2, .pu), (3, .rd), (4, .pu), (5, .pu), (6, .rd), (7, .pu), (8, .pu), (9, .rd), (10, .pu), (11, .rd), (12, .pu), (13, .rd), (14, .pu)] mixed (ClE.sat _ _) (by kernel_rfl) ?_
           refine dp rfl (Pu.fieldAddr fd39_4 rfl) (dq rfl (Qt.ldB 2 ty23 rfl rfl rfl) (dp rfl (Pu.fieldAddr fd25_2 rfl) (dq rfl (Qt.ldB 0 ty23 rfl rfl rfl) (dp rfl (Pu.move rfl) ?_))))
           obtain ⟨g78, H⟩ := gdE H
           refine dp rfl (Pu.indexSl sl23 rfl rfl g78) (dq rfl (Qt.ld0 (α := Int) (Rd.base h1) ty3 rfl rfl g78 (by rintro _ _ rfl; rfl)) (dp rfl (Pu.quoW rfl rfl (by decide)) (dp rfl (Pu.fieldAddr fd39_4 rfl) (dq rfl (Qt.ldB 2 ty23 rfl rfl rfl) (dp rfl (Pu.lenSl sl23 rfl) ?_)))))
           obtain ⟨x79, hx79, H⟩ := bindE H
           refine dq rfl (Qt.call (vs := [.int .i64 (IntKind.i64.wrap (Int.tdiv (gi a0_p.order v22) 7)), .int .i64 (((gi a0_p.l x31).ts).length : Int)]) ent13 rfl fun w s => thronglaw0_Within_walk (IntKind.i64.wrap (Int.tdiv (gi a0_p.order v22) 7)) (((gi a0_p.l x31).ts).length : Int) w  hx79) ?_
           obtain ⟨g80, H⟩ := gdE H
           obtain ⟨bl81, ol82, rfl⟩ := R_ptr hu40 (ne_of_pos (pos_of g80))
           refine dp rfl (Pu.indexSl sl23 rfl rfl g80) (dq rfl (Qt.ld0 (α := Int) (Rd.base hu40) ty3 rfl rfl g80 (by rintro _ _ rfl; rfl)) (dp rfl (Pu.assign rfl) ?_))
           obtain rfl := sj H
           refine RD.nil (hJ48 _ _ (gi ((gi a0_p.l x31).ts) x79) () HX48 ⟨rfl, rfl, rfl, rfl, trivial⟩ ⟨rfl, trivial⟩ (fun w s => s))
          ·have H := ifF hc77 H
           obtain rfl := sj H
           refine T.skip (hJ48 _ _ 0 () HX48 ⟨rfl, rfl, rfl, rfl, trivial⟩ ⟨rfl, trivial⟩ (fun w s => s))
        ·have H := ifF hc27 H
         obtain rfl := hd19 _ H
         refine T.xt (hJ19 _ _ v23 () HX19 trivial trivial (fun w s => s))
       ·intro hJ26
        refine RS.splitP 49 rfl (fun hc25 => ?_) (fun hc25 => ?_)
        ·refine rM rfl (rp (Pu.bin rfl rfl rfl) (rp (Pu.pickT rfl rfl) ?_))
         exact hJ26 _ _ ⟨dAndT hc25, rfl, rfl, rfl, trivial⟩ (fun w s => s)
        ·refine ro (ro (rp (Pu.pickF rfl rfl) ?_))
         exact hJ26 _ _ ⟨dAndF hc25, rfl, rfl, rfl, trivial⟩ (fun w s => s)
    ·intro hJ15
     refine RS.split 37 rfl (fun hc14 => ?_) (fun hc14 => ?_)
     ·refine ro (ro (ro (ro (rp (Pu.pickT rfl rfl) ?_))))
      exact hJ15 _ _ ⟨dOrT hc14, rfl, rfl, trivial⟩ (fun w s => s)
     ·refine rp (Pu.fieldAddr fd25_1 rfl) (rq (Qt.ldB 0 ty22 rfl rfl rfl) (rp (Pu.lenSl sl22 rfl) (rp (Pu.bin rfl rfl rfl) (rp (Pu.pickF rfl rfl) ?_))))
      exact hJ15 _ _ ⟨dOrF (bne_of hc14), rfl, rfl, trivial⟩ (fun w s => s)
  ·intro z83 H hJ11
   refine RS.splitP 27 rfl (fun hc10 => ?_) (fun hc10 => ?_)
   ·have H := ifT hc10 H
    refine ro (ro (ro (ro (ro (ro (rp (Pu.pickT rfl rfl) ?_))))))
    obtain rfl := sj H
    exact hJ11 _ _ ⟨rfl, rfl, rfl, trivial⟩ (fun w s => s)
   ·have H := ifF hc10 H
    refine rM rfl (rp (Pu.eqNilO ul27 rfl) (rM rfl ?_))
    obtain ⟨x84, hx84, H⟩ := bindE H
    refine rq (Qt.call (vs := [.int .i64 o6]) ent11 rfl fun w s => thronglaw18_num_walk o6 w  hx84) (rp (Pu.bin rfl rfl rfl) (rp (Pu.neB ul4 rfl rfl) (rp (Pu.pickF rfl rfl) ?_)))
    obtain rfl := sj H
    exact hJ11 _ _ ⟨rfl, rfl, rfl, trivial⟩ (fun w s => s)
end Go.Proofs.YthdbofgcckjopaaGreat
