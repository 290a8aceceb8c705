/-
  Walk of RouteFinds.
-/
import Derived.Test.YthdbofgcckjopaaGreatRows
import Derived.Test.YthdbofgcckjopaaGreatW3
import Derived.Test.YthdbofgcckjopaaGreatRLH
import Derived.Test.YthdbofgcckjopaaGreatRLG1
set_option linter.unusedVariables false
set_option linter.unusedSimpArgs false
set_option maxRecDepth 20000
set_option maxHeartbeats 4000000
namespace Go.Proofs.YthdbofgcckjopaaGreat
open Go.Vg
open Enc (R)
theorem ent14:Ent Tryz.prog 14:=⟨_,_,Tryz.func14,by kernel_rfl,rfl⟩
theorem ent15:Ent Tryz.prog 15:=⟨_,_,Tryz.func15,by kernel_rfl,rfl⟩
theorem ent19:Ent Tryz.prog 19:=⟨_,_,Tryz.func19,by kernel_rfl,rfl⟩
theorem ent21:Ent Tryz.prog 21:=⟨_,_,Tryz.func21,by kernel_rfl,rfl⟩
theorem ent23:Ent Tryz.prog 23:=⟨_,_,Tryz.func23,by kernel_rfl,rfl⟩
theorem ent24:Ent Tryz.prog 24:=⟨_,_,Tryz.func24,by kernel_rfl,rfl⟩
theorem ent27:Ent Tryz.prog 27:=⟨_,_,Tryz.func27,by kernel_rfl,rfl⟩
theorem ent28:Ent Tryz.prog 28:=⟨_,_,Tryz.func28,by kernel_rfl,rfl⟩
theorem ent29:Ent Tryz.prog 29:=⟨_,_,Tryz.func29,by kernel_rfl,rfl⟩
theorem fd39_2:fdOff Tryz.prog 39 2 = some 4:=by kernel_rfl
theorem fd39_3:fdOff Tryz.prog 39 3 = some 5:=by kernel_rfl
theorem ty39:tySz Tryz.prog 39 = some (7,true):=by kernel_rfl
theorem thronglaw14_RouteFinds_walk (a0_p:Ask13) (w:World) {v0 v1 v2:Value} (h0:R (hpOf w) a0_p.g.tiles [v0]) (h1:R (hpOf w) a0_p.l [v1]) (h2:R (hpOf w) a0_p.ts [v2]) {r:Bool} (H:thronglaw14_RouteFinds a0_p = some r):Calls Tryz.prog 5 #[.agg #[.int .i64 a0_p.g.w,.int .i64 a0_p.g.h,v0,v1,.int .i64 a0_p.cls,.int .i64 a0_p.size,v2]] w fun e w'=>e = .returned (.bool r)∧Ext w w':=by
 have hm0:=R_max h0
 obtain ⟨p0,c0,rfl⟩:=R_form h0
 have hm1:=R_max h1
 obtain ⟨p1,c1,rfl⟩:=R_form h1
 have hm2:=R_max h2
 obtain ⟨p2,c2,rfl⟩:=R_form h2
 unfold thronglaw14_RouteFinds at H
 refine T.enter (args:=[_]) (S:=Sat w []) Tryz.func5 rfl rfl (Sat.start w) ?_
 refine T.seq fun K1 hK1=>T.region (RS.solid (Sd.box (cs:=[_,_,_,_,_,_,_]) rfl rfl) rfl rfl fun b1=>rA rfl (RS.nil (hK1 _ _ ?_)))
 refine T.seq fun K2 hK2=>T.seq fun K3 hK3=>T.region (rq (Qt.ldBA (us:=[_,_,_,_,_,_,_]) 0 ty39 rfl rfl rfl rfl) ?_)
 obtain ⟨x2,hx2,H⟩:=bindE H
 refine rq (Qt.call (vs:=[.agg #[.int .i64 a0_p.g.w,.int .i64 a0_p.g.h,.slice p0 a0_p.g.tiles.length c0,.slice p1 a0_p.l.length c1,.int .i64 a0_p.cls,.int .i64 a0_p.size,.slice p2 a0_p.ts.length c2]]) ent23 rfl fun w s=>thronglaw13_Heavy_walk a0_p w ((Rd.base h0) w s) ((Rd.base h1) w s) ((Rd.base h2) w s) hx2) (RS.nil (hK3 _ _ ?_))
 refine T.cond rfl (fun hc3=>?_) (fun hc3=>?_)
 ·have H:=ifT hc3 H
  refine cq [] ?_
  refine T.seq fun K4 hK4=>T.region (rA rfl (RS.nil (hK4 _ _ ?_)))
  obtain rfl:=sj H
  refine T.rt (Cont.ret1 rfl rfl fun w' s=>?_)
  exact ⟨rfl,s.ext⟩
 ·have H:=ifB hc3 H
  refine T.skip (hK2 _ _ (cq [(1,_)] ?_))
  refine T.seq fun K5 hK5=>T.seq fun K6 hK6=>T.region (rA rfl (RS.nil (hK6 _ _ ?_)))
  refine T.joinE (σ:=Unit) (γ:=Unit) H Ex.go [] trivial (fun _ _=>[]) (fun _ _=>Sat w [blk b1 [.int .i64 a0_p.g.w,.int .i64 a0_p.g.h,.slice p0 a0_p.g.tiles.length c0,.slice p1 a0_p.l.length c1,.int .i64 a0_p.cls,.int .i64 a0_p.size,.slice p2 a0_p.ts.length c2] 39]) ?_ ?_
  ·rintro ⟨⟩ ⟨⟩ H
   try dsimp only [Ex.then] at H
   refine Cont.conseq (fr':=[]) ?_ trivial (fun _ s=>s)
   refine id (hK5 _ _ ?_)
   refine T.seq fun K7 hK7=>T.region ?_
   obtain ⟨x5,hx5,H⟩:=bindE H
   refine rq (Qt.call (vs:=[]) ent29 rfl fun w s=>thronglaw14_wakes_walk  w  hx5) (rA rfl (RS.nil (hK7 _ _ ?_)))
   obtain rfl:=sj H
   refine T.rt (Cont.ret1 rfl rfl fun w' s=>?_)
   exact ⟨rfl,s.ext⟩
  ·intro z4 hz4 HX4 hJ4
   refine T.block ?_
   refine T.loopA (γ:=Unit) hz4 [(1,_)] (fun v6 _=>[(3,.int .i64 v6)]) (fun v6 _=>Sat w [blk b1 [.int .i64 a0_p.g.w,.int .i64 a0_p.g.h,.slice p0 a0_p.g.tiles.length c0,.slice p1 a0_p.l.length c1,.int .i64 a0_p.cls,.int .i64 a0_p.size,.slice p2 a0_p.ts.length c2] 39]) () ⟨rfl,trivial⟩ ⟨rfl,trivial⟩ (fun w s=>s) ?_
   rintro v6 ⟨⟩ y7 H hd4 KL4 hL4
   try dsimp only [Ex.then] at H
   refine cq [(3,_),(1,_)] ?_
   refine T.seq fun K8 hK8=>T.seq fun K9 hK9=>T.region (rM rfl ?_)
   obtain ⟨g8,H⟩:=gdE H
   refine rp (Pu.addS rfl rfl g8) (rp (Pu.fieldAddr fd39_4 rfl) (rq (Qt.ldB 0 ty23 rfl rfl rfl) (rp (Pu.lenSl sl23 rfl) (rp (Pu.bin rfl rfl rfl) (rM rfl ?_)))))
   refine RS.joinV 3 24 (.bool (decide (((v6 + 1) < (a0_p.ts.length:Int))∧(v6 < 4)))) [(1,_),(3,_)] ⟨rfl,rfl,trivial⟩ ?_ ?_
   ·refine RS.nil (hK9 _ _ ?_)
    refine T.condP rfl (fun hc11=>?_) (fun hc11=>?_)
    ·have H:=ifT hc11 H
     refine T.skip (hK8 _ _ ?_)
     refine T.seq fun K10 hK10=>T.block (T.seq fun K11 hK11=>?_)
     refine T.drawn (fun _=>True) [(0,.pu),(1,.rd),(2,.pu),(3,.pu),(4,.rd),(5,.pu),(6,.rd),(7,.pu),(8,.pu),(9,.pu),(10,.rd),(11,.pu),(12,.pu)] mixed (ClE.sat _ _) (by kernel_rfl) ?_
     refine dp rfl (Pu.fieldAddr fd39_4 rfl) (dq rfl (Qt.ldB 0 ty23 rfl rfl rfl) (dp rfl (Pu.move rfl) ?_))
     obtain ⟨g12,H⟩:=gdE H
     obtain ⟨bl13,ol14,rfl⟩:=R_ptr h2 (ne_of_pos (pos_of g12))
     refine dp rfl (Pu.indexSl sl23 rfl rfl g12) (dq rfl (Qt.ld0 (α:=Int) (Rd.base h2) ty3 rfl rfl g12 (by rintro _ _ rfl; rfl)) (dp rfl (Pu.fieldAddr fd39_4 rfl) (dq rfl (Qt.ldB 0 ty23 rfl rfl rfl) (dp rfl (Pu.move rfl) ?_))))
     obtain ⟨g15,H⟩:=gdE H
     refine dp rfl (Pu.addS rfl rfl g15) ?_
     obtain ⟨g16,H⟩:=gdE H
     refine dp rfl (Pu.indexSl sl23 rfl rfl g16) (dq rfl (Qt.ld0 (α:=Int) (Rd.base h2) ty3 rfl rfl g16 (by rintro _ _ rfl; rfl)) (dp rfl (Pu.assign rfl) (dp rfl (Pu.assign rfl) (RD.nil (hK11 _ _ (cq [(1,_),(3,_),(4,_),(5,_)] ?_))))))
     refine T.seq fun K12 hK12=>T.region (rp (Pu.build (cells:=[_,_,_]) st52 rfl rfl) (RS.solid (Sd.alloc zr52 rfl) rfl rfl fun b17=>rA rfl (RS.solid (Sd.stB (cs':=[_,_,_]) 1 ty52 rfl rfl rfl rfl rfl rfl rfl rfl) rfl rfl fun _=>RS.nil (hK12 _ _ ?_))))
     refine T.seq fun K13 hK13=>T.seq fun K14 hK14=>T.region (rp (Pu.fieldAddr fd39_0 rfl) (rq (Qt.ldBA (us:=[_,_,_]) 0 ty36 rfl rfl rfl rfl) (rp (Pu.fieldAddr fd39_1 rfl) (rq (Qt.ldB 0 ty37 rfl rfl rfl) (rp (Pu.fieldAddr fd39_2 rfl) (rq (Qt.ldB 0 ty3 rfl rfl rfl) (rp (Pu.fieldAddr fd39_3 rfl) (rq (Qt.ldB 0 ty3 rfl rfl rfl) ?_))))))))
     obtain ⟨x18,hx18,H⟩:=bindE H
     refine rq (Qt.call (vs:=[.agg #[.int .i64 a0_p.g.w,.int .i64 a0_p.g.h,.slice p0 a0_p.g.tiles.length c0],.slice p1 a0_p.l.length c1,.int .i64 a0_p.cls,.int .i64 a0_p.size]) ent14 rfl fun w s=>throngref13_May_walk a0_p.g a0_p.l a0_p.cls a0_p.size w ((Rd.base h0) w s) ((Rd.base h1) w s) hx18) (RS.nil (hK14 _ _ ?_))
     refine T.joinE (σ:=Int × Int × List Int × List Int) (γ:=(Option Nat × Nat) × (Option Nat × Nat)) H (fun s=>s) [(1,_),(3,_),(4,_),(5,_),(7,_)] ⟨rfl,rfl,rfl,rfl,rfl,trivial⟩ (fun (v20,v21,v22,v24) (q23,q25)=>[(6,.int .i64 v20)]) (fun (v20,v21,v22,v24) (q23,q25)=>Sat w [blk b1 [.int .i64 a0_p.g.w,.int .i64 a0_p.g.h,.slice p0 a0_p.g.tiles.length c0,.slice p1 a0_p.l.length c1,.int .i64 a0_p.cls,.int .i64 a0_p.size,.slice (some ⟨bl13,ol14,none⟩) a0_p.ts.length c2] 39,blk b17 [.int .i64 v21,rowV q23 v22.length,rowV q25 v24.length] 52,row nilH 3 (rowV q23 v22.length) v22,row nilH 3 (rowV q25 v24.length) v24]) ?_ ?_
     ·rintro ⟨v20,v21,v22,v24⟩ ⟨q23,q25⟩ H
      try dsimp only [Ex.then] at H
      refine Cont.conseq (fr':=[(6,_),(1,_),(3,_),(4,_),(5,_),(7,_)]) ?_ ⟨rfl,rfl,rfl,rfl,rfl,rfl,trivial⟩ (fun _ s=>s)
      refine id (hK13 _ _ ?_)
      refine T.seq fun K15 hK15=>T.region (rp (Pu.fieldAddr fd39_0 rfl) (rq (Qt.ldBA (us:=[_,_,_]) 0 ty36 rfl rfl rfl rfl) ?_))
      obtain ⟨x26,hx26,H⟩:=bindE H
      refine RS.solid (Sd.callN (vs:=[.agg #[.int .i64 a0_p.g.w,.int .i64 a0_p.g.h,.slice p0 a0_p.g.tiles.length c0]]) ent19 rfl (fun w s=>throngref0_CopyGround_walk a0_p.g w ((Rd.base h0) w s) hx26)) rfl rfl fun q27=>RS.solid (Sd.alloc zr36 rfl) rfl rfl fun b28=>RS.solid (Sd.stB (cs':=[_,_,_]) 5 ty36 rfl rfl rfl rfl rfl rfl rfl rfl) rfl rfl fun _=>RS.nil (hK15 _ _ (cq [(1,_),(3,_),(4,_),(5,_),(6,_),(7,_),(10,_)] ?_))
      refine T.seq fun K16 hK16=>T.region (rq (Qt.ldBA (us:=[_,_,_]) 5 ty36 rfl rfl rfl rfl) (rp (Pu.fieldAddr fd39_1 rfl) (rq (Qt.ldB 0 ty37 rfl rfl rfl) (rp (Pu.fieldAddr fd39_2 rfl) (rq (Qt.ldB 0 ty3 rfl rfl rfl) (rp (Pu.fieldAddr fd39_3 rfl) (rq (Qt.ldB 0 ty3 rfl rfl rfl) (rM rfl (rM rfl ?_)))))))))
      obtain ⟨x29,hx29,H⟩:=bindE H
      refine RS.solid (Sd.callN (vs:=[.agg #[.int .i64 x26.w,.int .i64 x26.h,rowV q27 x26.tiles.length],.slice p1 a0_p.l.length c1,.int .i64 a0_p.cls,.int .i64 a0_p.size,.int .i64 (gi a0_p.ts v6),.int .i64 (gi a0_p.ts (v6 + 1))]) ent25 rfl (fun w s=>route_Find_walk x26 a0_p.l a0_p.cls a0_p.size (gi a0_p.ts v6) (gi a0_p.ts (v6 + 1)) w ((Rd.ofRowN 4 rfl) w s) ((Rd.base h1) w s) hx29)) rfl rfl fun ⟨q30,q31⟩=>?_
      refine rM rfl (rp (Pu.extract rfl rfl) (rp (Pu.extract rfl rfl) (RS.solid (Sd.alloc zr52 rfl) rfl rfl fun b32=>RS.solid (Sd.stB (cs':=[_,_,_]) 8 ty52 rfl rfl rfl rfl rfl rfl rfl rfl) rfl rfl fun _=>rA rfl (RS.nil (hK16 _ _ (cq [(1,_),(3,_),(6,_),(7,_),(10,_),(11,_),(12,_)] ?_))))))
      refine T.seq fun K17 hK17=>T.seq fun K18 hK18=>?_
      try dsimp only [List.set,List.cons_append,List.nil_append]
      refine T.region (rM rfl ?_)
      obtain ⟨x33,hx33,H⟩:=bindE H
      refine rq (Qt.call (vs:=[.int .i64 x29.2]) ent26 rfl fun w s=>thronglaw14_num_walk x29.2 w  hx33) (rM rfl (rp (Pu.bin rfl rfl rfl) (rM rfl ?_)))
      refine RS.joinB H 5 101 (fun b36=>.bool b36) [(1,_),(3,_),(10,_),(11,_)] ⟨rfl,rfl,rfl,rfl,trivial⟩ ?_ ?_
      ·intro b36 H
       refine rM rfl ?_
       refine RS.joinB H 6 108 (fun b39=>.bool b39) [(1,_),(3,_),(11,_)] ⟨rfl,rfl,rfl,trivial⟩ ?_ ?_
       ·intro b39 H
        refine RS.nil (hK18 _ _ ?_)
        refine T.cond rfl (fun hc40=>?_) (fun hc40=>?_)
        ·have H:=ifT hc40 H
         refine cq [] ?_
         refine T.seq fun K19 hK19=>T.region (rA rfl (RS.nil (hK19 _ _ ?_)))
         obtain rfl:=hd4 _ H
         have H:=HX4
         obtain rfl:=sj H
         try dsimp only [List.set,List.cons_append,List.nil_append]
         refine T.rt (Cont.ret1 rfl rfl fun w' s=>?_)
         exact ⟨rfl,s.ext⟩
        ·have H:=ifB hc40 H
         refine T.skip (hK17 _ _ ?_)
         refine T.seq fun K20 hK20=>?_
         try dsimp only [List.set,List.cons_append,List.nil_append]
         refine T.region (rp (Pu.fieldAddr fd52_1 rfl) (rq (Qt.ldB 8 ty23 rfl rfl rfl) ?_))
         obtain ⟨x41,hx41,H⟩:=bindE H
         refine RS.solid (Sd.callF0 (vs:=[rowV q30 x29.1.portals.length]) (C':=dead) (v:=.tuple #[]) 6 ent21 rfl rfl (fun w s=>thronglaw0_Numbers_walk x29.1.portals rfl  hx41 w s)) rfl rfl fun _=>RS.nil (hK20 _ _ (cq [(1,_),(3,_),(11,_)] ?_))
         try dsimp only [List.set,List.cons_append,List.nil_append]
         refine T.region (rp (Pu.fieldAddr fd52_2 rfl) (rq (Qt.ldB 8 ty23 rfl rfl rfl) ?_))
         obtain ⟨x42,hx42,H⟩:=bindE H
         refine RS.solid (Sd.callF0 (vs:=[rowV q31 x29.1.sectors.length]) (C':=dead) (v:=.tuple #[]) 7 ent21 rfl rfl (fun w s=>thronglaw0_Numbers_walk x29.1.sectors rfl  hx42 w s)) rfl rfl fun _=>RS.nil (hK10 _ _ (cq [(1,_),(3,_)] ?_))
         try dsimp only [List.set,List.cons_append,List.nil_append]
         refine T.region (rM rfl ?_)
         obtain ⟨g43,H⟩:=gdE H
         refine rp (Pu.addS rfl rfl g43) (rA rfl (RS.nil (hL4 _ _ (v6 + 1) () H ⟨rfl,trivial⟩ ⟨rfl,trivial⟩ (fun w s=>s.pick [0] (by decide) rfl))))
       ·intro z44 H hJ38
        refine RS.split 102 rfl (fun hc37=>?_) (fun hc37=>?_)
        ·have H:=ifT hc37 H
         refine ro (ro (ro (ro (ro (rp (Pu.pickT rfl rfl) ?_)))))
         obtain rfl:=sj H
         exact hJ38 _ _ ⟨rfl,rfl,rfl,rfl,trivial⟩ (fun w s=>s)
        ·have H:=ifB hc37 H
         refine rq (Qt.ldBA (us:=[_,_,_]) 5 ty36 rfl rfl rfl rfl) (rp (Pu.fieldAddr fd39_0 rfl) (rq (Qt.ldBA (us:=[_,_,_]) 0 ty36 rfl rfl rfl rfl) ?_))
         obtain ⟨x45,hx45,H⟩:=bindE H
         refine rq (Qt.call (vs:=[.agg #[.int .i64 x26.w,.int .i64 x26.h,rowV q27 x26.tiles.length],.agg #[.int .i64 a0_p.g.w,.int .i64 a0_p.g.h,.slice p0 a0_p.g.tiles.length c0]]) ent28 rfl fun w s=>throngref0_EqGround_walk x26 a0_p.g w ((Rd.ofRowN 4 rfl) w s) ((Rd.base h0) w s) hx45) (rp (Pu.not rfl) (rp (Pu.pickF rfl rfl) ?_))
         obtain rfl:=sj H
         exact hJ38 _ _ ⟨rfl,rfl,rfl,rfl,trivial⟩ (fun w s=>s)
      ·intro z46 H hJ35
       refine RS.splitP 96 rfl (fun hc34=>?_) (fun hc34=>?_)
       ·have H:=ifT hc34 H
        refine ro (ro (ro (ro (rp (Pu.pickT rfl rfl) ?_))))
        obtain rfl:=sj H
        exact hJ35 _ _ ⟨rfl,rfl,rfl,rfl,rfl,trivial⟩ (fun w s=>s)
       ·have H:=ifF hc34 H
        refine rq (Qt.ldBA (us:=[_,_,_]) 8 ty52 rfl rfl rfl rfl) (rq (Qt.ldBA (us:=[_,_,_]) 1 ty52 rfl rfl rfl rfl) ?_)
        obtain ⟨x47,hx47,H⟩:=bindE H
        refine rq (Qt.call (vs:=[.agg #[.int .i64 x29.1.cost,rowV q30 x29.1.portals.length,rowV q31 x29.1.sectors.length],.agg #[.int .i64 v21,rowV q23 v22.length,rowV q25 v24.length]]) ent27 rfl fun w s=>throngref0_EqRoute_walk x29.1 (⟨v21,v22,v24⟩:Rte) w ((Rd.ofRowN 6 rfl) w s) ((Rd.ofRowN 7 rfl) w s) ((Rd.ofRowN 2 rfl) w s) ((Rd.ofRowN 3 rfl) w s) hx47) (rp (Pu.not rfl) (rp (Pu.pickF rfl rfl) ?_))
        obtain rfl:=sj H
        exact hJ35 _ _ ⟨rfl,rfl,rfl,rfl,rfl,trivial⟩ (fun w s=>s)
     ·intro z19 H HX19 hJ19
      refine T.cond rfl (fun hc48=>?_) (fun hc48=>?_)
      ·have H:=ifT hc48 H
       refine cq [(1,_),(3,_),(4,_),(5,_),(7,_)] ?_
       refine T.seq fun K21 hK21=>T.region (rA rfl (RS.nil (hK21 _ _ ?_)))
       refine T.seq fun K22 hK22=>T.region (rp (Pu.fieldAddr fd39_0 rfl) (rq (Qt.ldBA (us:=[_,_,_]) 0 ty36 rfl rfl rfl rfl) (rM rfl ?_)))
       obtain ⟨x49,hx49,H⟩:=bindE H
       refine rq (Qt.call (vs:=[.agg #[.int .i64 a0_p.g.w,.int .i64 a0_p.g.h,.slice p0 a0_p.g.tiles.length c0],.int .i64 (gi a0_p.ts v6)]) ent15 rfl fun w s=>throngref5_Tile_walk a0_p.g (gi a0_p.ts v6) w ((Rd.base h0) w s) hx49) (rM rfl ?_)
       refine RS.joinB H 5 57 (fun b52=>.bool b52) [(1,_),(3,_),(4,_),(5,_),(6,_),(7,_)] ⟨rfl,rfl,rfl,rfl,rfl,rfl,trivial⟩ ?_ ?_
       ·intro b52 H
        refine RS.nil (hK22 _ _ ?_)
        refine T.cond rfl (fun hc53=>?_) (fun hc53=>?_)
        ·have H:=ifT hc53 H
         refine T.seq fun K23 hK23=>T.region (rp (Pu.fieldAddr fd39_0 rfl) (rq (Qt.ldBA (us:=[_,_,_]) 0 ty36 rfl rfl rfl rfl) (rp (Pu.fieldAddr fd39_1 rfl) (rq (Qt.ldB 0 ty37 rfl rfl rfl) (rp (Pu.fieldAddr fd39_2 rfl) (rq (Qt.ldB 0 ty3 rfl rfl rfl) (rp (Pu.fieldAddr fd39_3 rfl) (rq (Qt.ldB 0 ty3 rfl rfl rfl) (rM rfl (rM rfl ?_))))))))))
         obtain ⟨x54,hx54,H⟩:=bindE H
         refine RS.solid (Sd.callN (vs:=[.agg #[.int .i64 a0_p.g.w,.int .i64 a0_p.g.h,.slice p0 a0_p.g.tiles.length c0],.slice p1 a0_p.l.length c1,.int .i64 a0_p.cls,.int .i64 a0_p.size,.int .i64 (gi a0_p.ts v6),.int .i64 (gi a0_p.ts (v6 + 1))]) ent24 rfl (fun w s=>throngref13_Route_walk a0_p.g a0_p.l a0_p.cls a0_p.size (gi a0_p.ts v6) (gi a0_p.ts (v6 + 1)) w ((Rd.base h0) w s) ((Rd.base h1) w s) hx54)) rfl rfl fun ⟨q55,q56⟩=>?_
         refine rM rfl (rp (Pu.extract rfl rfl) (rp (Pu.extract rfl rfl) (RS.solid (Sd.alloc zr52 rfl) rfl rfl fun b57=>RS.solid (Sd.stB (cs':=[_,_,_]) 4 ty52 rfl rfl rfl rfl rfl rfl rfl rfl) rfl rfl fun _=>rA rfl (RS.nil (hK23 _ _ (cq [(1,_),(3,_),(4,_),(5,_),(7,_),(8,_),(9,_)] ?_))))))
         refine T.seq fun K24 hK24=>?_
         refine T.drawn (fun _=>True) [(0,.rd),(1,.pu),(2,.br)] mixed (ClE.sat _ _) (by kernel_rfl) ?_
         refine dq rfl (Qt.ldBA (us:=[_,_,_]) 4 ty52 rfl rfl rfl rfl) (dp rfl (Pu.assign rfl) (RD.solid rfl (.inr rfl) rfl rfl (Sd.stB (cs':=[_,_,_]) 1 ty52 rfl rfl rfl rfl rfl rfl rfl rfl) (fun _=>ClE.sat _ _) (fun _ _ _=>trivial) (fun h=>nomatch h) fun _=>?_))
         refine RD.nil (hK24 _ _ ?_)
         refine T.seq fun K25 hK25=>T.region (rM rfl (rp (Pu.not rfl) (RS.nil (hK25 _ _ ?_))))
         refine T.cond rfl (fun hc58=>?_) (fun hc58=>?_)
         ·have H:=ifT hc58 H
          refine cq [(1,_),(3,_),(4,_),(5,_),(7,_)] ?_
          refine T.region (rp (Pu.build (cells:=[_,_,_]) st52 rfl rfl) (rA rfl (RS.solid (Sd.stB (cs':=[_,_,_]) 1 ty52 rfl rfl rfl rfl rfl rfl rfl rfl) rfl rfl fun _=>?_)))
          obtain rfl:=sj H
          refine RS.nil (hJ19 _ _ (5,0,[],[]) ((none,0),(none,0)) HX19 ⟨rfl,rfl,rfl,rfl,rfl,trivial⟩ ⟨rfl,trivial⟩ (fun w s=>((s.nilRow (α:=Int) 3).nilRow (α:=Int) 3).pick [0,1,5,6] (by decide) rfl))
         ·have H:=ifB hc58 H
          obtain rfl:=sj H
          refine T.skip (hJ19 _ _ (0,x54.1.cost,x54.1.portals,x54.1.sectors) (q55,q56) HX19 ⟨rfl,rfl,rfl,rfl,rfl,trivial⟩ ⟨rfl,trivial⟩ (fun w s=>s.pick [0,1,2,3] (by decide) rfl))
        ·have H:=ifB hc53 H
         obtain rfl:=sj H
         refine T.skip (hJ19 _ _ (3,0,[],[]) ((none,0),(none,0)) HX19 ⟨rfl,rfl,rfl,rfl,rfl,trivial⟩ ⟨rfl,trivial⟩ (fun w s=>((s.nilRow (α:=Int) 3).nilRow (α:=Int) 3).pick [0,1,2,3] (by decide) rfl))
       ·intro z59 H hJ51
        refine RS.split 52 rfl (fun hc50=>?_) (fun hc50=>?_)
        ·have H:=ifT hc50 H
         refine rp (Pu.fieldAddr fd39_0 rfl) (rq (Qt.ldBA (us:=[_,_,_]) 0 ty36 rfl rfl rfl rfl) (rM rfl ?_))
         obtain ⟨x60,hx60,H⟩:=bindE H
         refine rq (Qt.call (vs:=[.agg #[.int .i64 a0_p.g.w,.int .i64 a0_p.g.h,.slice p0 a0_p.g.tiles.length c0],.int .i64 (gi a0_p.ts (v6 + 1))]) ent15 rfl fun w s=>throngref5_Tile_walk a0_p.g (gi a0_p.ts (v6 + 1)) w ((Rd.base h0) w s) hx60) (rp (Pu.pickT rfl rfl) ?_)
         obtain rfl:=sj H
         exact hJ51 _ _ ⟨rfl,rfl,rfl,rfl,rfl,rfl,rfl,trivial⟩ (fun w s=>s)
        ·have H:=ifB hc50 H
         refine ro (ro (ro (ro (rp (Pu.pickF rfl rfl) ?_))))
         obtain rfl:=sj H
         exact hJ51 _ _ ⟨rfl,rfl,rfl,rfl,rfl,rfl,rfl,trivial⟩ (fun w s=>s)
      ·have H:=ifB hc48 H
       obtain rfl:=sj H
       refine T.skip (hJ19 _ _ (1,0,[],[]) ((none,0),(none,0)) HX19 ⟨rfl,rfl,rfl,rfl,rfl,trivial⟩ ⟨rfl,trivial⟩ (fun w s=>((s.nilRow (α:=Int) 3).nilRow (α:=Int) 3).pick [0,1,2,3] (by decide) rfl))
    ·have H:=ifF hc11 H
     obtain rfl:=hd4 _ H
     refine T.xt (hJ4 _ _ () () HX4 trivial trivial (fun w s=>s))
   ·intro hJ10
    refine RS.splitP 21 rfl (fun hc9=>?_) (fun hc9=>?_)
    ·refine rM rfl (rp (Pu.bin rfl rfl rfl) (rp (Pu.pickT rfl rfl) ?_))
     exact hJ10 _ _ ⟨dAndT hc9,rfl,rfl,trivial⟩ (fun w s=>s)
    ·refine ro (ro (rp (Pu.pickF rfl rfl) ?_))
     exact hJ10 _ _ ⟨dAndF hc9,rfl,rfl,trivial⟩ (fun w s=>s)
end Go.Proofs.YthdbofgcckjopaaGreat
