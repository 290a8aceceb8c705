/-
  Texts of one's own, joined: BH0 BH FO FG FH NO TO ZE NG ZU FI NH WO SO.
-/
import Derived.Test.YtmngdgclldkcfaaGreatRows
import Derived.Test.YtmngdgclldkcfaaGreatW3
import Derived.Test.YtmngdgclldkcfaaGreatA1
import Derived.Test.YtmngdgclldkcfaaGreatW2
set_option linter.unusedVariables false
set_option linter.unusedSimpArgs false
set_option maxRecDepth 20000
set_option maxHeartbeats 4000000
namespace Go.Proofs.YtmngdgclldkcfaaGreat
open Go.Vg
open Enc (R)
theorem ent169:Ent Tryz.prog 169:=⟨_,_,Tryz.func169,by kernel_rfl,rfl⟩
theorem ent254:Ent Tryz.prog 254:=⟨_,_,Tryz.func254,by kernel_rfl,rfl⟩
theorem ent282:Ent Tryz.prog 282:=⟨_,_,Tryz.func282,by kernel_rfl,rfl⟩
theorem ent63:Ent Tryz.prog 63:=⟨_,_,Tryz.func63,by kernel_rfl,rfl⟩
theorem ent64:Ent Tryz.prog 64:=⟨_,_,Tryz.func64,by kernel_rfl,rfl⟩
theorem ent66:Ent Tryz.prog 66:=⟨_,_,Tryz.func66,by kernel_rfl,rfl⟩
theorem eqt135:eqTy Tryz.prog 135 = some [0,1,2,3,4,5]:=by kernel_rfl
theorem fd24_0:fdOff Tryz.prog 24 0 = some 0:=by kernel_rfl
theorem fd24_1:fdOff Tryz.prog 24 1 = some 1:=by kernel_rfl
theorem fd24_2:fdOff Tryz.prog 24 2 = some 2:=by kernel_rfl
theorem sl22:slTy Tryz.prog 22 = some (5,1,1):=by kernel_rfl
theorem sl41:slTy Tryz.prog 41 = some (4,1,1):=by kernel_rfl
theorem ty135:tySz Tryz.prog 135 = some (6,true):=by kernel_rfl
theorem ty22:tySz Tryz.prog 22 = some (1,false):=by kernel_rfl
theorem ty3:tySz Tryz.prog 3 = some (1,false):=by kernel_rfl
theorem ty4:tySz Tryz.prog 4 = some (1,false):=by kernel_rfl
theorem ty5:tySz Tryz.prog 5 = some (1,false):=by kernel_rfl
theorem ul4:Tryz.prog.underlying 4 = some .bool:=by kernel_rfl
theorem throngref0_EqBytes_walk (a0_a:List UInt8) (a1_b:List UInt8) (w:World) {v0 v1:Value} (h0:R (hpOf w) a0_a [v0]) (h1:R (hpOf w) a1_b [v1]) {r:Bool} (H:throngref0_EqBytes a0_a a1_b = some r):Calls Tryz.prog 66 #[v0,v1] w fun e w'=>e = .returned (.bool r)∧Ext w w':=by
 have hm0:=R_max h0
 obtain ⟨p0,c0,rfl⟩:=R_form h0
 have hm1:=R_max h1
 obtain ⟨p1,c1,rfl⟩:=R_form h1
 unfold throngref0_EqBytes at H
 refine T.enter (args:=[_,_]) (S:=Sat w []) Tryz.func66 rfl rfl (Sat.start w) ?_
 refine T.seq fun K1 hK1=>T.region (rA rfl (RS.nil (hK1 _ _ ?_)))
 refine T.seq fun K2 hK2=>T.seq fun K3 hK3=>T.region (rM rfl (rp (Pu.lenSl sl22 rfl) (rM rfl (rp (Pu.lenSl sl22 rfl) (rp (Pu.bin rfl rfl rfl) (RS.nil (hK3 _ _ ?_)))))))
 refine T.condP rfl (fun hc1=>?_) (fun hc1=>?_)
 ·have H:=ifT hc1 H
  refine cq [] ?_
  refine T.seq fun K4 hK4=>T.region (rA rfl (RS.nil (hK4 _ _ ?_)))
  obtain rfl:=sj H
  refine T.rt (Cont.ret1 rfl rfl fun w' s=>?_)
  exact ⟨rfl,s.ext⟩
 ·have H:=ifF hc1 H
  refine T.skip (hK2 _ _ (cq [(0,_),(1,_)] ?_))
  refine T.seq fun K5 hK5=>T.seq fun K6 hK6=>T.region (rA rfl (RS.nil (hK6 _ _ ?_)))
  refine T.joinE (σ:=Unit) (γ:=Unit) H Ex.go [] trivial (fun _ _=>[]) (fun _ _=>Sat w []) ?_ ?_
  ·rintro ⟨⟩ ⟨⟩ H
   try dsimp only [Ex.then] at H
   refine Cont.conseq (fr':=[]) ?_ trivial (fun _ s=>s)
   refine id (hK5 _ _ ?_)
   refine T.seq fun K7 hK7=>T.region (rA rfl (RS.nil (hK7 _ _ ?_)))
   obtain rfl:=sj H
   refine T.rt (Cont.ret1 rfl rfl fun w' s=>?_)
   exact ⟨rfl,s.ext⟩
  ·intro z2 hz2 HX2 hJ2
   refine T.block ?_
   refine T.loopA (γ:=Unit) hz2 [(0,_),(1,_)] (fun v3 _=>[(5,.int .i64 v3)]) (fun v3 _=>Sat w []) () ⟨rfl,rfl,trivial⟩ ⟨rfl,trivial⟩ (fun w s=>s) ?_
   rintro v3 ⟨⟩ y4 H hd2 KL2 hL2
   try dsimp only [Ex.then] at H
   refine cq [(5,_),(0,_),(1,_)] ?_
   refine T.seq fun K8 hK8=>T.seq fun K9 hK9=>T.region (rM rfl (rM rfl (rp (Pu.lenSl sl22 rfl) (rp (Pu.bin rfl rfl rfl) (RS.nil (hK9 _ _ ?_))))))
   refine T.condP rfl (fun hc5=>?_) (fun hc5=>?_)
   ·have H:=ifT hc5 H
    refine T.skip (hK8 _ _ (cq [(0,_),(1,_),(5,_)] ?_))
    refine T.seq fun K10 hK10=>T.block (T.seq fun K11 hK11=>?_)
    refine T.drawn (fun _=>True) [(0,.pu),(1,.pu),(2,.pu),(3,.rd),(4,.pu),(5,.pu),(6,.pu),(7,.rd),(8,.pu)] mixed (ClE.sat _ _) (by kernel_rfl) ?_
    refine dp rfl (Pu.move rfl) (dp rfl (Pu.move rfl) ?_)
    obtain ⟨g6,H⟩:=gdE H
    obtain ⟨bl7,ol8,rfl⟩:=R_ptr h0 (ne_of_pos (pos_of g6))
    refine dp rfl (Pu.indexSl sl22 rfl rfl g6) (dq rfl (Qt.ld0 (α:=UInt8) (Rd.base h0) ty5 rfl rfl g6 (by rintro _ _ rfl; rfl)) (dp rfl (Pu.move rfl) (dp rfl (Pu.move rfl) ?_)))
    obtain ⟨g9,H⟩:=gdE H
    obtain ⟨bl10,ol11,rfl⟩:=R_ptr h1 (ne_of_pos (pos_of g9))
    refine dp rfl (Pu.indexSl sl22 rfl rfl g9) (dq rfl (Qt.ld0 (α:=UInt8) (Rd.base h1) ty5 rfl rfl g9 (by rintro _ _ rfl; rfl)) (dp rfl (Pu.bin rfl rfl rfl) (RD.nil (hK11 _ _ ?_))))
    refine T.condP rfl (fun hc12=>?_) (fun hc12=>?_)
    ·have H:=ifT hc12 H
     refine cq [] ?_
     refine T.seq fun K12 hK12=>T.region (rA rfl (RS.nil (hK12 _ _ ?_)))
     obtain rfl:=hd2 _ H
     have H:=HX2
     obtain rfl:=sj H
     refine T.rt (Cont.ret1 rfl rfl fun w' s=>?_)
     exact ⟨rfl,s.ext⟩
    ·have H:=ifF hc12 H
     refine T.skip (hK10 _ _ (cq [(0,_),(1,_),(5,_)] ?_))
     refine T.region (rM rfl ?_)
     obtain ⟨g13,H⟩:=gdE H
     refine rp (Pu.addS rfl rfl g13) (rA rfl (RS.nil (hL2 _ _ (v3 + 1) () H ⟨rfl,rfl,trivial⟩ ⟨rfl,trivial⟩ (fun w s=>s))))
   ·have H:=ifF hc5 H
    obtain rfl:=hd2 _ H
    refine T.xt (hJ2 _ _ () () HX2 trivial trivial (fun w s=>s))
theorem throngref0_EqBuildings_walk (a0_a:List Bld) (a1_b:List Bld) (w:World) {v0 v1:Value} (h0:R (hpOf w) a0_a [v0]) (h1:R (hpOf w) a1_b [v1]) {r:Bool} (H:throngref0_EqBuildings a0_a a1_b = some r):Calls Tryz.prog 34 #[v0,v1] w fun e w'=>e = .returned (.bool r)∧Ext w w':=by
 have hm0:=R_max h0
 obtain ⟨p0,c0,rfl⟩:=R_form h0
 have hm1:=R_max h1
 obtain ⟨p1,c1,rfl⟩:=R_form h1
 unfold throngref0_EqBuildings at H
 refine T.enter (args:=[_,_]) (S:=Sat w []) Tryz.func34 rfl rfl (Sat.start w) ?_
 refine T.seq fun K1 hK1=>T.region (rA rfl (RS.nil (hK1 _ _ ?_)))
 refine T.seq fun K2 hK2=>T.seq fun K3 hK3=>T.region (rM rfl (rp (Pu.lenSl sl49 rfl) (rM rfl (rp (Pu.lenSl sl49 rfl) (rp (Pu.bin rfl rfl rfl) (RS.nil (hK3 _ _ ?_)))))))
 refine T.condP rfl (fun hc1=>?_) (fun hc1=>?_)
 ·have H:=ifT hc1 H
  refine cq [] ?_
  refine T.seq fun K4 hK4=>T.region (rA rfl (RS.nil (hK4 _ _ ?_)))
  obtain rfl:=sj H
  refine T.rt (Cont.ret1 rfl rfl fun w' s=>?_)
  exact ⟨rfl,s.ext⟩
 ·have H:=ifF hc1 H
  refine T.skip (hK2 _ _ (cq [(0,_),(1,_)] ?_))
  refine T.seq fun K5 hK5=>T.seq fun K6 hK6=>T.region (rA rfl (RS.nil (hK6 _ _ ?_)))
  refine T.joinE (σ:=Unit) (γ:=Unit) H Ex.go [] trivial (fun _ _=>[]) (fun _ _=>Sat w []) ?_ ?_
  ·rintro ⟨⟩ ⟨⟩ H
   try dsimp only [Ex.then] at H
   refine Cont.conseq (fr':=[]) ?_ trivial (fun _ s=>s)
   refine id (hK5 _ _ ?_)
   refine T.seq fun K7 hK7=>T.region (rA rfl (RS.nil (hK7 _ _ ?_)))
   obtain rfl:=sj H
   refine T.rt (Cont.ret1 rfl rfl fun w' s=>?_)
   exact ⟨rfl,s.ext⟩
  ·intro z2 hz2 HX2 hJ2
   refine T.block ?_
   refine T.loopA (γ:=Unit) hz2 [(0,_),(1,_)] (fun v3 _=>[(5,.int .i64 v3)]) (fun v3 _=>Sat w []) () ⟨rfl,rfl,trivial⟩ ⟨rfl,trivial⟩ (fun w s=>s) ?_
   rintro v3 ⟨⟩ y4 H hd2 KL2 hL2
   try dsimp only [Ex.then] at H
   refine cq [(5,_),(0,_),(1,_)] ?_
   refine T.seq fun K8 hK8=>T.seq fun K9 hK9=>T.region (rM rfl (rM rfl (rp (Pu.lenSl sl49 rfl) (rp (Pu.bin rfl rfl rfl) (RS.nil (hK9 _ _ ?_))))))
   refine T.condP rfl (fun hc5=>?_) (fun hc5=>?_)
   ·have H:=ifT hc5 H
    refine T.skip (hK8 _ _ (cq [(0,_),(1,_),(5,_)] ?_))
    refine T.seq fun K10 hK10=>T.block (T.seq fun K11 hK11=>?_)
    refine T.drawn (fun _=>True) [(0,.pu),(1,.pu),(2,.pu),(3,.rd),(4,.pu),(5,.pu),(6,.pu),(7,.rd),(8,.pu)] mixed (ClE.sat _ _) (by kernel_rfl) ?_
    refine dp rfl (Pu.move rfl) (dp rfl (Pu.move rfl) ?_)
    obtain ⟨g6,H⟩:=gdE H
    obtain ⟨bl7,ol8,rfl⟩:=R_ptr h0 (ne_of_pos (pos_of g6))
    refine dp rfl (Pu.indexSl sl49 rfl rfl g6) (dq rfl (Qt.ldW (α:=Bld) (cs:=[_,_,_,_,_,_]) (Rd.base h0) ty135 rfl rfl g6 rfl (by rintro _ _ rfl; rfl)) (dp rfl (Pu.move rfl) (dp rfl (Pu.move rfl) ?_)))
    obtain ⟨g9,H⟩:=gdE H
    obtain ⟨bl10,ol11,rfl⟩:=R_ptr h1 (ne_of_pos (pos_of g9))
    refine dp rfl (Pu.indexSl sl49 rfl rfl g9) (dq rfl (Qt.ldW (α:=Bld) (cs:=[_,_,_,_,_,_]) (Rd.base h1) ty135 rfl rfl g9 rfl (by rintro _ _ rfl; rfl)) (dp rfl (Pu.neSt eqt135 rfl rfl rfl (eq_Bld (gi a0_a v3) (gi a1_b v3))) (RD.nil (hK11 _ _ ?_))))
    refine T.condP rfl (fun hc12=>?_) (fun hc12=>?_)
    ·have H:=ifT hc12 H
     refine cq [] ?_
     refine T.seq fun K12 hK12=>T.region (rA rfl (RS.nil (hK12 _ _ ?_)))
     obtain rfl:=hd2 _ H
     have H:=HX2
     obtain rfl:=sj H
     refine T.rt (Cont.ret1 rfl rfl fun w' s=>?_)
     exact ⟨rfl,s.ext⟩
    ·have H:=ifF hc12 H
     refine T.skip (hK10 _ _ (cq [(0,_),(1,_),(5,_)] ?_))
     refine T.region (rM rfl ?_)
     obtain ⟨g13,H⟩:=gdE H
     refine rp (Pu.addS rfl rfl g13) (rA rfl (RS.nil (hL2 _ _ (v3 + 1) () H ⟨rfl,rfl,trivial⟩ ⟨rfl,trivial⟩ (fun w s=>s))))
   ·have H:=ifF hc5 H
    obtain rfl:=hd2 _ H
    refine T.xt (hJ2 _ _ () () HX2 trivial trivial (fun w s=>s))
theorem throngref0_EqGround_walk (a0_a:Grd) (a1_b:Grd) (w:World) {v0 v1:Value} (h0:R (hpOf w) a0_a.tiles [v0]) (h1:R (hpOf w) a1_b.tiles [v1]) {r:Bool} (H:throngref0_EqGround a0_a a1_b = some r):Calls Tryz.prog 33 #[.agg #[.int .i64 a0_a.w,.int .i64 a0_a.h,v0],.agg #[.int .i64 a1_b.w,.int .i64 a1_b.h,v1]] w fun e w'=>e = .returned (.bool r)∧Ext w w':=by
 have hm0:=R_max h0
 obtain ⟨p0,c0,rfl⟩:=R_form h0
 have hm1:=R_max h1
 obtain ⟨p1,c1,rfl⟩:=R_form h1
 unfold throngref0_EqGround at H
 refine T.enter (args:=[_,_]) (S:=Sat w []) Tryz.func33 rfl rfl (Sat.start w) ?_
 refine T.seq fun K1 hK1=>T.region (RS.solid (Sd.box (cs:=[_,_,_]) rfl rfl) rfl rfl fun b1=>RS.solid (Sd.box (cs:=[_,_,_]) rfl rfl) rfl rfl fun b2=>rA rfl (RS.nil (hK1 _ _ (cq [(2,_),(3,_)] ?_))))
 refine T.seq fun K2 hK2=>T.region (rp (Pu.fieldAddr fd24_0 rfl) (rq (Qt.ldB 0 ty3 rfl rfl rfl) (rp (Pu.fieldAddr fd24_0 rfl) (rq (Qt.ldB 1 ty3 rfl rfl rfl) (rp (Pu.bin rfl rfl rfl) (rM rfl ?_))))))
 refine RS.joinV 6 16 (.bool (decide ((a0_a.w = a1_b.w)∧(a0_a.h = a1_b.h)))) [(2,_),(3,_)] ⟨rfl,rfl,trivial⟩ ?_ ?_
 ·refine rM rfl ?_
  refine RS.joinB H 6 23 (fun b7=>.bool b7) [] trivial ?_ ?_
  ·intro b7 H
   refine rA rfl (RS.nil (hK2 _ _ ?_))
   obtain rfl:=sj H
   refine T.rt (Cont.ret1 rfl rfl fun w' s=>?_)
   exact ⟨rfl,s.ext⟩
  ·intro z8 H hJ6
   refine RS.splitP 17 rfl (fun hc5=>?_) (fun hc5=>?_)
   ·have H:=ifT hc5 H
    refine rp (Pu.fieldAddr fd24_2 rfl) (rq (Qt.ldB 0 ty22 rfl rfl rfl) (rp (Pu.fieldAddr fd24_2 rfl) (rq (Qt.ldB 1 ty22 rfl rfl rfl) ?_)))
    obtain ⟨x9,hx9,H⟩:=bindE H
    refine rq (Qt.call (vs:=[.slice p0 a0_a.tiles.length c0,.slice p1 a1_b.tiles.length c1]) ent66 rfl fun w s=>throngref0_EqBytes_walk a0_a.tiles a1_b.tiles w ((Rd.base h0) w s) ((Rd.base h1) w s) hx9) (rp (Pu.pickT rfl rfl) ?_)
    obtain rfl:=sj H
    exact hJ6 _ _ ⟨rfl,trivial⟩ (fun w s=>s)
   ·have H:=ifF hc5 H
    refine ro (ro (ro (ro (ro (rp (Pu.pickF rfl rfl) ?_)))))
    obtain rfl:=sj H
    exact hJ6 _ _ ⟨rfl,trivial⟩ (fun w s=>s)
 ·intro hJ4
  refine RS.splitP 10 rfl (fun hc3=>?_) (fun hc3=>?_)
  ·refine rp (Pu.fieldAddr fd24_1 rfl) (rq (Qt.ldB 0 ty3 rfl rfl rfl) (rp (Pu.fieldAddr fd24_1 rfl) (rq (Qt.ldB 1 ty3 rfl rfl rfl) (rp (Pu.bin rfl rfl rfl) (rp (Pu.pickT rfl rfl) ?_)))))
   exact hJ4 _ _ ⟨dAndT hc3,rfl,rfl,trivial⟩ (fun w s=>s)
  ·refine ro (ro (ro (ro (ro (rp (Pu.pickF rfl rfl) ?_)))))
   exact hJ4 _ _ ⟨dAndF hc3,rfl,rfl,trivial⟩ (fun w s=>s)
theorem cmp_isNaN_walk (a0_x:Int) (w:World) {r:Bool} (H:cmp_isNaN a0_x = some r):Calls Tryz.prog 254 #[.int .i64 a0_x] w fun e w'=>e = .returned (.bool r)∧Ext w w':=by
 unfold cmp_isNaN at H
 refine T.enter (args:=[_]) (S:=Sat w []) Tryz.func254 rfl rfl (Sat.start w) ?_
 refine T.seq fun K1 hK1=>T.region (rA rfl (RS.nil (hK1 _ _ ?_)))
 refine T.seq fun K2 hK2=>T.region (rM rfl (rM rfl (rp (Pu.bin rfl rfl rfl) (rA rfl (RS.nil (hK2 _ _ (cq [(2,_)] ?_)))))))
 obtain rfl:=sj H
 refine T.rt (Cont.ret1 rfl rfl fun w' s=>?_)
 exact ⟨rfl,s.ext⟩
theorem cmp_Compare_walk (a0_x:Int) (a1_y:Int) (w:World) {r:Int} (H:cmp_Compare a0_x a1_y = some r):Calls Tryz.prog 183 #[.int .i64 a0_x,.int .i64 a1_y] w fun e w'=>e = .returned (.int .i64 r)∧Ext w w':=by
 unfold cmp_Compare at H
 refine T.enter (args:=[_,_]) (S:=Sat w []) Tryz.func183 rfl rfl (Sat.start w) ?_
 refine T.seq fun K1 hK1=>T.region (rA rfl (RS.nil (hK1 _ _ ?_)))
 refine T.seq fun K2 hK2=>T.region (rM rfl ?_)
 obtain ⟨x1,hx1,H⟩:=bindE H
 refine rq (Qt.call (vs:=[.int .i64 a0_x]) ent254 rfl fun w s=>cmp_isNaN_walk a0_x w  hx1) (rA rfl (RS.nil (hK2 _ _ (cq [(0,_),(1,_),(5,_)] ?_))))
 refine T.seq fun K3 hK3=>T.region (rM rfl ?_)
 obtain ⟨x2,hx2,H⟩:=bindE H
 refine rq (Qt.call (vs:=[.int .i64 a1_y]) ent254 rfl fun w s=>cmp_isNaN_walk a1_y w  hx2) (rA rfl (RS.nil (hK3 _ _ ?_)))
 refine T.seq fun K4 hK4=>T.seq fun K5 hK5=>T.region (rM rfl (RS.nil (hK5 _ _ ?_)))
 refine T.cond rfl (fun hc3=>?_) (fun hc3=>?_)
 ·have H:=ifT hc3 H
  refine cq [(6,_)] ?_
  refine T.seq fun K6 hK6=>T.seq fun K7 hK7=>T.region (rM rfl (RS.nil (hK7 _ _ ?_)))
  refine T.cond rfl (fun hc4=>?_) (fun hc4=>?_)
  ·have H:=ifT hc4 H
   refine T.seq fun K8 hK8=>T.region (rA rfl (RS.nil (hK8 _ _ ?_)))
   obtain rfl:=sj H
   refine T.rt (Cont.ret1 rfl rfl fun w' s=>?_)
   exact ⟨rfl,s.ext⟩
  ·have H:=ifB hc4 H
   refine T.skip (hK6 _ _ ?_)
   refine T.seq fun K9 hK9=>T.region (rA rfl (RS.nil (hK9 _ _ ?_)))
   obtain rfl:=sj H
   refine T.rt (Cont.ret1 rfl rfl fun w' s=>?_)
   exact ⟨rfl,s.ext⟩
 ·have H:=ifB hc3 H
  refine T.skip (hK4 _ _ (cq [(0,_),(1,_),(6,_)] ?_))
  refine T.seq fun K10 hK10=>T.seq fun K11 hK11=>T.region (rM rfl (RS.nil (hK11 _ _ ?_)))
  refine T.cond rfl (fun hc5=>?_) (fun hc5=>?_)
  ·have H:=ifT hc5 H
   refine cq [] ?_
   refine T.seq fun K12 hK12=>T.region (rA rfl (RS.nil (hK12 _ _ ?_)))
   obtain rfl:=sj H
   refine T.rt (Cont.ret1 rfl rfl fun w' s=>?_)
   exact ⟨rfl,s.ext⟩
  ·have H:=ifB hc5 H
   refine T.skip (hK10 _ _ ?_)
   refine T.seq fun K13 hK13=>T.seq fun K14 hK14=>T.region (rM rfl (rM rfl (rp (Pu.bin rfl rfl rfl) (RS.nil (hK14 _ _ ?_)))))
   refine T.condP rfl (fun hc6=>?_) (fun hc6=>?_)
   ·have H:=ifT hc6 H
    refine cq [] ?_
    refine T.seq fun K15 hK15=>T.region (rA rfl (RS.nil (hK15 _ _ ?_)))
    obtain rfl:=sj H
    refine T.rt (Cont.ret1 rfl rfl fun w' s=>?_)
    exact ⟨rfl,s.ext⟩
   ·have H:=ifF hc6 H
    refine T.skip (hK13 _ _ (cq [(0,_),(1,_)] ?_))
    refine T.seq fun K16 hK16=>T.seq fun K17 hK17=>T.region (rM rfl (rM rfl (rp (Pu.bin rfl rfl rfl) (RS.nil (hK17 _ _ ?_)))))
    refine T.condP rfl (fun hc7=>?_) (fun hc7=>?_)
    ·have H:=ifT hc7 H
     refine cq [] ?_
     refine T.seq fun K18 hK18=>T.region (rA rfl (RS.nil (hK18 _ _ ?_)))
     obtain rfl:=sj H
     refine T.rt (Cont.ret1 rfl rfl fun w' s=>?_)
     exact ⟨rfl,s.ext⟩
    ·have H:=ifF hc7 H
     refine T.skip (hK16 _ _ (cq [] ?_))
     refine T.seq fun K19 hK19=>T.region (rA rfl (RS.nil (hK19 _ _ ?_)))
     obtain rfl:=sj H
     refine T.rt (Cont.ret1 rfl rfl fun w' s=>?_)
     exact ⟨rfl,s.ext⟩
theorem slices_Max_walk (a0_x:List UInt8) (w:World) {v0:Value} (h0:R (hpOf w) a0_x [v0]) {r:Int} (H:slices_Max a0_x = some r):Calls Tryz.prog 64 #[v0] w fun e w'=>e = .returned (.int .u8 r)∧Ext w w':=by
 have hm0:=R_max h0
 obtain ⟨p0,c0,rfl⟩:=R_form h0
 unfold slices_Max at H
 refine T.enter (args:=[_]) (S:=Sat w []) Tryz.func64 rfl rfl (Sat.start w) ?_
 refine T.seq fun K1 hK1=>T.region (rA rfl (RS.nil (hK1 _ _ ?_)))
 refine T.seq fun K2 hK2=>T.seq fun K3 hK3=>T.region (rM rfl (rp (Pu.lenSl sl22 rfl) (rp (Pu.bin rfl rfl rfl) (RS.nil (hK3 _ _ ?_)))))
 refine T.joinE (σ:=Unit) (γ:=Unit) H (fun s=>s) [(0,_)] ⟨rfl,trivial⟩ (fun _ _=>[]) (fun _ _=>Sat w []) ?_ ?_
 ·rintro ⟨⟩ ⟨⟩ H
  try dsimp only [Ex.then] at H
  refine Cont.conseq (fr':=[(0,_)]) ?_ ⟨rfl,trivial⟩ (fun _ s=>s)
  refine id (hK2 _ _ ?_)
  refine T.seq fun K4 hK4=>T.region (rM rfl ?_)
  obtain ⟨g2,H⟩:=gdE H
  obtain ⟨bl3,ol4,rfl⟩:=R_ptr h0 (ne_of_pos (pos_of g2))
  refine rp (Pu.indexSl sl22 rfl rfl g2) (rq (Qt.ld0 (α:=UInt8) (Rd.base h0) ty5 rfl rfl g2 (by rintro _ _ rfl; rfl)) (rA rfl (RS.nil (hK4 _ _ (cq [(0,_),(3,_)] ?_)))))
  refine T.seq fun K5 hK5=>T.seq fun K6 hK6=>T.region (rA rfl (RS.nil (hK6 _ _ ?_)))
  refine T.joinE (σ:=Int) (γ:=Unit) H (fun s=>s) [] trivial (fun v6 _=>[(3,.int .u8 v6)]) (fun v6 _=>Sat w []) ?_ ?_
  ·rintro v6 ⟨⟩ H
   try dsimp only [Ex.then] at H
   refine Cont.conseq (fr':=[(3,_)]) ?_ ⟨rfl,trivial⟩ (fun _ s=>s)
   refine id (hK5 _ _ ?_)
   refine T.seq fun K7 hK7=>T.region (rM rfl (rA rfl (RS.nil (hK7 _ _ ?_))))
   obtain rfl:=sj H
   refine T.rt (Cont.ret1 rfl rfl fun w' s=>?_)
   exact ⟨rfl,s.ext⟩
  ·intro z5 hz5 HX5 hJ5
   refine T.block ?_
   refine T.loopA (γ:=Unit) hz5 [(0,_)] (fun (v7,v8) _=>[(3,.int .u8 v7),(4,.int .i64 v8)]) (fun (v7,v8) _=>Sat w []) () ⟨rfl,trivial⟩ ⟨rfl,rfl,trivial⟩ (fun w s=>s) ?_
   rintro ⟨v7,v8⟩ ⟨⟩ y9 H hd5 KL5 hL5
   try dsimp only [Ex.then] at H
   refine cq [(3,_),(4,_),(0,_)] ?_
   refine T.seq fun K8 hK8=>T.seq fun K9 hK9=>T.region (rM rfl (rM rfl (rp (Pu.lenSl sl22 rfl) (rp (Pu.bin rfl rfl rfl) (RS.nil (hK9 _ _ ?_))))))
   refine T.condP rfl (fun hc10=>?_) (fun hc10=>?_)
   ·have H:=ifT hc10 H
    refine T.skip (hK8 _ _ (cq [(0,_),(3,_),(4,_)] ?_))
    refine T.seq fun K10 hK10=>T.block (T.region (rM rfl (rM rfl (rM rfl ?_))))
    obtain ⟨g11,H⟩:=gdE H
    refine rp (Pu.indexSl sl22 rfl rfl g11) (rq (Qt.ld0 (α:=UInt8) (Rd.base h0) ty5 rfl rfl g11 (by rintro _ _ rfl; rfl)) (rp (Pu.maxI rfl rfl) (rA rfl (RS.nil (hK10 _ _ (cq [(0,_),(3,_),(4,_)] ?_))))))
    refine T.region (rM rfl ?_)
    obtain ⟨g12,H⟩:=gdE H
    refine rp (Pu.addS rfl rfl g12) (rA rfl (RS.nil (hL5 _ _ ((max v7 ((gi a0_x v8).toNat:Int)),(v8 + 1)) () H ⟨rfl,trivial⟩ ⟨rfl,rfl,trivial⟩ (fun w s=>s))))
   ·have H:=ifF hc10 H
    obtain rfl:=hd5 _ H
    refine T.xt (hJ5 _ _ v7 () HX5 trivial ⟨rfl,trivial⟩ (fun w s=>s))
 ·intro z1 H HX1 hJ1
  refine T.condP rfl (fun hc13=>?_) (fun hc13=>?_)
  ·have H:=ifT hc13 H
   refine cq [(0,_)] ?_
   exact nomatch H
  ·have H:=ifF hc13 H
   obtain rfl:=sj H
   refine T.skip (hJ1 _ _ () () HX1 ⟨rfl,trivial⟩ trivial (fun w s=>s))
theorem slices_IndexFunc_walk (a0_s:List Int) (a1_f:Int→Option Bool) (w:World) {v0 v1:Value} (h0:R (hpOf w) a0_s [v0]) (h1:FnQ Tryz.prog w v1 (fun (y0:Int)=>[.int .i64 y0]) (fun (r:Bool)=>.bool r) a1_f) {r:Int} (H:slices_IndexFunc a0_s a1_f = some r):Calls Tryz.prog 282 #[v0,v1] w fun e w'=>e = .returned (.int .i64 r)∧Ext w w':=by
 have hm0:=R_max h0
 obtain ⟨p0,c0,rfl⟩:=R_form h0
 unfold slices_IndexFunc at H
 refine T.enter (args:=[_,_]) (S:=Sat w []) Tryz.func282 rfl rfl (Sat.start w) ?_
 refine T.seq fun K1 hK1=>T.region (rA rfl (RS.nil (hK1 _ _ ?_)))
 refine T.seq fun K2 hK2=>T.seq fun K3 hK3=>T.region (rM rfl (rp (Pu.lenSl sl35 rfl) (rM rfl (RS.nil (hK3 _ _ ?_)))))
 refine T.joinE (σ:=Unit) (γ:=Unit) H Ex.go [] trivial (fun _ _=>[]) (fun _ _=>Sat w []) ?_ ?_
 ·rintro ⟨⟩ ⟨⟩ H
  try dsimp only [Ex.then] at H
  refine Cont.conseq (fr':=[]) ?_ trivial (fun _ s=>s)
  refine id (hK2 _ _ ?_)
  refine T.seq fun K4 hK4=>T.region (rA rfl (RS.nil (hK4 _ _ ?_)))
  obtain rfl:=sj H
  refine T.rt (Cont.ret1 rfl rfl fun w' s=>?_)
  exact ⟨rfl,s.ext⟩
 ·intro z1 hz1 HX1 hJ1
  refine T.block ?_
  refine T.loopA (γ:=Unit) hz1 [(0,_),(1,_),(7,_)] (fun v2 _=>[(8,.int .i64 v2)]) (fun v2 _=>Sat w []) () ⟨rfl,rfl,rfl,trivial⟩ ⟨rfl,trivial⟩ (fun w s=>s) ?_
  rintro v2 ⟨⟩ y3 H hd1 KL1 hL1
  try dsimp only [Ex.then] at H
  refine cq [(8,_),(0,_),(1,_),(7,_)] ?_
  refine T.seq fun K5 hK5=>T.region (rp (Pu.bin rfl rfl rfl) (RS.nil (hK5 _ _ ?_)))
  refine T.seq fun K6 hK6=>?_
  refine T.condP rfl (fun hc4=>?_) (fun hc4=>?_)
  ·have H:=ifT hc4 H
   refine T.skip (hK6 _ _ ?_)
   refine T.seq fun K7 hK7=>T.block (T.seq fun K8 hK8=>T.region (rM rfl (rA rfl (RS.nil (hK8 _ _ ?_)))))
   refine T.seq fun K9 hK9=>T.region (rM rfl (rM rfl (rM rfl ?_)))
   obtain ⟨g5,H⟩:=gdE H
   obtain ⟨bl6,ol7,rfl⟩:=R_ptr h0 (ne_of_pos (pos_of g5))
   refine rp (Pu.indexSl sl35 rfl rfl g5) (rq (Qt.ld0 (α:=Int) (Rd.base h0) ty3 rfl rfl g5 (by rintro _ _ rfl; rfl)) ?_)
   obtain ⟨x8,hx8,H⟩:=bindE H
   refine rq (Qt.callV rfl h1 (fun w s=>s.ext) hx8 rfl) (RS.nil (hK9 _ _ ?_))
   refine T.cond rfl (fun hc9=>?_) (fun hc9=>?_)
   ·have H:=ifT hc9 H
    refine cq [(5,_)] ?_
    refine T.seq fun K10 hK10=>T.region (rM rfl (rA rfl (RS.nil (hK10 _ _ ?_))))
    obtain rfl:=hd1 _ H
    have H:=HX1
    obtain rfl:=sj H
    refine T.rt (Cont.ret1 rfl rfl fun w' s=>?_)
    exact ⟨rfl,s.ext⟩
   ·have H:=ifB hc9 H
    refine T.skip (hK7 _ _ (cq [(0,_),(1,_),(7,_),(8,_)] ?_))
    refine T.region ?_
    obtain ⟨g10,H⟩:=gdE H
    refine rp (Pu.addS rfl rfl g10) (rM rfl (RS.nil (hL1 _ _ (v2 + 1) () H ⟨rfl,rfl,rfl,trivial⟩ ⟨rfl,trivial⟩ (fun w s=>s))))
  ·have H:=ifF hc4 H
   obtain rfl:=hd1 _ H
   refine T.xt (hJ1 _ _ () () HX1 trivial trivial (fun w s=>s))
theorem slices_ContainsFunc_walk (a0_s:List Int) (a1_f:Int→Option Bool) (w:World) {v0 v1:Value} (h0:R (hpOf w) a0_s [v0]) (h1:FnQ Tryz.prog w v1 (fun (y0:Int)=>[.int .i64 y0]) (fun (r:Bool)=>.bool r) a1_f) {r:Bool} (H:slices_ContainsFunc a0_s a1_f = some r):Calls Tryz.prog 236 #[v0,v1] w fun e w'=>e = .returned (.bool r)∧Ext w w':=by
 have hm0:=R_max h0
 obtain ⟨p0,c0,rfl⟩:=R_form h0
 unfold slices_ContainsFunc at H
 refine T.enter (args:=[_,_]) (S:=Sat w []) Tryz.func236 rfl rfl (Sat.start w) ?_
 refine T.seq fun K1 hK1=>T.region (rA rfl (RS.nil (hK1 _ _ ?_)))
 refine T.seq fun K2 hK2=>T.region (rM rfl (rM rfl ?_))
 obtain ⟨x1,hx1,H⟩:=bindE H
 refine rq (Qt.call (vs:=[.slice p0 a0_s.length c0,v1]) ent282 rfl fun w s=>slices_IndexFunc_walk a0_s a1_f w ((Rd.base h0) w s) (FnQ.ext s.ext h1) hx1) (rp (Pu.bin rfl rfl rfl) (rA rfl (RS.nil (hK2 _ _ (cq [(4,_)] ?_)))))
 obtain rfl:=sj H
 refine T.rt (Cont.ret1 rfl rfl fun w' s=>?_)
 exact ⟨rfl,s.ext⟩
theorem slices_IndexFuncB_walk (a0_s:List Bld) (a1_f:Bld→Option Bool) (w:World) {v0 v1:Value} (h0:R (hpOf w) a0_s [v0]) (h1:FnQ Tryz.prog w v1 (fun (y0:Bld)=>[.agg #[.int .i64 y0.id,.int .i64 y0.owner,.int .i64 y0.x,.int .i64 y0.y,.int .i64 y0.w,.int .i64 y0.h]]) (fun (r:Bool)=>.bool r) a1_f) {r:Int} (H:slices_IndexFuncB a0_s a1_f = some r):Calls Tryz.prog 169 #[v0,v1] w fun e w'=>e = .returned (.int .i64 r)∧Ext w w':=by
 have hm0:=R_max h0
 obtain ⟨p0,c0,rfl⟩:=R_form h0
 unfold slices_IndexFuncB at H
 refine T.enter (args:=[_,_]) (S:=Sat w []) Tryz.func169 rfl rfl (Sat.start w) ?_
 refine T.seq fun K1 hK1=>T.region (rA rfl (RS.nil (hK1 _ _ ?_)))
 refine T.seq fun K2 hK2=>T.seq fun K3 hK3=>T.region (rM rfl (rp (Pu.lenSl sl49 rfl) (rM rfl (RS.nil (hK3 _ _ ?_)))))
 refine T.joinE (σ:=Unit) (γ:=Unit) H Ex.go [] trivial (fun _ _=>[]) (fun _ _=>Sat w []) ?_ ?_
 ·rintro ⟨⟩ ⟨⟩ H
  try dsimp only [Ex.then] at H
  refine Cont.conseq (fr':=[]) ?_ trivial (fun _ s=>s)
  refine id (hK2 _ _ ?_)
  refine T.seq fun K4 hK4=>T.region (rA rfl (RS.nil (hK4 _ _ ?_)))
  obtain rfl:=sj H
  refine T.rt (Cont.ret1 rfl rfl fun w' s=>?_)
  exact ⟨rfl,s.ext⟩
 ·intro z1 hz1 HX1 hJ1
  refine T.block ?_
  refine T.loopA (γ:=Unit) hz1 [(0,_),(1,_),(7,_)] (fun v2 _=>[(8,.int .i64 v2)]) (fun v2 _=>Sat w []) () ⟨rfl,rfl,rfl,trivial⟩ ⟨rfl,trivial⟩ (fun w s=>s) ?_
  rintro v2 ⟨⟩ y3 H hd1 KL1 hL1
  try dsimp only [Ex.then] at H
  refine cq [(8,_),(0,_),(1,_),(7,_)] ?_
  refine T.seq fun K5 hK5=>T.region (rp (Pu.bin rfl rfl rfl) (RS.nil (hK5 _ _ ?_)))
  refine T.seq fun K6 hK6=>?_
  refine T.condP rfl (fun hc4=>?_) (fun hc4=>?_)
  ·have H:=ifT hc4 H
   refine T.skip (hK6 _ _ ?_)
   refine T.seq fun K7 hK7=>T.block (T.seq fun K8 hK8=>T.region (rM rfl (rA rfl (RS.nil (hK8 _ _ ?_)))))
   refine T.seq fun K9 hK9=>T.region (rM rfl (rM rfl (rM rfl ?_)))
   obtain ⟨g5,H⟩:=gdE H
   obtain ⟨bl6,ol7,rfl⟩:=R_ptr h0 (ne_of_pos (pos_of g5))
   refine rp (Pu.indexSl sl49 rfl rfl g5) (rq (Qt.ldW (α:=Bld) (cs:=[_,_,_,_,_,_]) (Rd.base h0) ty135 rfl rfl g5 rfl (by rintro _ _ rfl; rfl)) ?_)
   obtain ⟨x8,hx8,H⟩:=bindE H
   refine rq (Qt.callV rfl h1 (fun w s=>s.ext) hx8 rfl) (RS.nil (hK9 _ _ ?_))
   refine T.cond rfl (fun hc9=>?_) (fun hc9=>?_)
   ·have H:=ifT hc9 H
    refine cq [(5,_)] ?_
    refine T.seq fun K10 hK10=>T.region (rM rfl (rA rfl (RS.nil (hK10 _ _ ?_))))
    obtain rfl:=hd1 _ H
    have H:=HX1
    obtain rfl:=sj H
    refine T.rt (Cont.ret1 rfl rfl fun w' s=>?_)
    exact ⟨rfl,s.ext⟩
   ·have H:=ifB hc9 H
    refine T.skip (hK7 _ _ (cq [(0,_),(1,_),(7,_),(8,_)] ?_))
    refine T.region ?_
    obtain ⟨g10,H⟩:=gdE H
    refine rp (Pu.addS rfl rfl g10) (rM rfl (RS.nil (hL1 _ _ (v2 + 1) () H ⟨rfl,rfl,rfl,trivial⟩ ⟨rfl,trivial⟩ (fun w s=>s))))
  ·have H:=ifF hc4 H
   obtain rfl:=hd1 _ H
   refine T.xt (hJ1 _ _ () () HX1 trivial trivial (fun w s=>s))
theorem slices_ContainsFuncB_walk (a0_s:List Bld) (a1_f:Bld→Option Bool) (w:World) {v0 v1:Value} (h0:R (hpOf w) a0_s [v0]) (h1:FnQ Tryz.prog w v1 (fun (y0:Bld)=>[.agg #[.int .i64 y0.id,.int .i64 y0.owner,.int .i64 y0.x,.int .i64 y0.y,.int .i64 y0.w,.int .i64 y0.h]]) (fun (r:Bool)=>.bool r) a1_f) {r:Bool} (H:slices_ContainsFuncB a0_s a1_f = some r):Calls Tryz.prog 112 #[v0,v1] w fun e w'=>e = .returned (.bool r)∧Ext w w':=by
 have hm0:=R_max h0
 obtain ⟨p0,c0,rfl⟩:=R_form h0
 unfold slices_ContainsFuncB at H
 refine T.enter (args:=[_,_]) (S:=Sat w []) Tryz.func112 rfl rfl (Sat.start w) ?_
 refine T.seq fun K1 hK1=>T.region (rA rfl (RS.nil (hK1 _ _ ?_)))
 refine T.seq fun K2 hK2=>T.region (rM rfl (rM rfl ?_))
 obtain ⟨x1,hx1,H⟩:=bindE H
 refine rq (Qt.call (vs:=[.slice p0 a0_s.length c0,v1]) ent169 rfl fun w s=>slices_IndexFuncB_walk a0_s a1_f w ((Rd.base h0) w s) (FnQ.ext s.ext h1) hx1) (rp (Pu.bin rfl rfl rfl) (rA rfl (RS.nil (hK2 _ _ (cq [(4,_)] ?_)))))
 obtain rfl:=sj H
 refine T.rt (Cont.ret1 rfl rfl fun w' s=>?_)
 exact ⟨rfl,s.ext⟩
theorem ground_Side_walk (a0_n:Int) (w:World) {r:Bool} (H:ground_Side a0_n = some r):Calls Tryz.prog 63 #[.int .i64 a0_n] w fun e w'=>e = .returned (.bool r)∧Ext w w':=by
 unfold ground_Side at H
 refine T.enter (args:=[_]) (S:=Sat w []) Tryz.func63 rfl rfl (Sat.start w) ?_
 refine T.seq fun K1 hK1=>T.region (rA rfl (RS.nil (hK1 _ _ ?_)))
 refine T.seq fun K2 hK2=>T.region (rM rfl (rp (Pu.bin rfl rfl rfl) (rM rfl ?_)))
 refine RS.joinV 3 8 (.bool (decide ((1 ≤ a0_n)∧(a0_n ≤ 128)))) [(2,_)] ⟨rfl,trivial⟩ ?_ ?_
 ·refine rA rfl (RS.nil (hK2 _ _ ?_))
  obtain rfl:=sj H
  refine T.rt (Cont.ret1 rfl rfl fun w' s=>?_)
  exact ⟨rfl,s.ext⟩
 ·intro hJ2
  refine RS.splitP 5 rfl (fun hc1=>?_) (fun hc1=>?_)
  ·refine rM rfl (rp (Pu.bin rfl rfl rfl) (rp (Pu.pickT rfl rfl) ?_))
   exact hJ2 _ _ ⟨dAndT hc1,rfl,trivial⟩ (fun w s=>s)
  ·refine ro (ro (rp (Pu.pickF rfl rfl) ?_))
   exact hJ2 _ _ ⟨dAndF hc1,rfl,trivial⟩ (fun w s=>s)
theorem ground_May_walk (a0_g:Grd) (w:World) {v0:Value} (h0:R (hpOf w) a0_g.tiles [v0]) {r:Bool} (H:ground_May a0_g = some r):Calls Tryz.prog 31 #[.agg #[.int .i64 a0_g.w,.int .i64 a0_g.h,v0]] w fun e w'=>e = .returned (.bool r)∧Ext w w':=by
 have hm0:=R_max h0
 obtain ⟨p0,c0,rfl⟩:=R_form h0
 unfold ground_May at H
 refine T.enter (args:=[_]) (S:=Sat w []) Tryz.func31 rfl rfl (Sat.start w) ?_
 refine T.seq fun K1 hK1=>T.region (RS.solid (Sd.box (cs:=[_,_,_]) rfl rfl) rfl rfl fun b1=>rA rfl (RS.nil (hK1 _ _ ?_)))
 refine T.seq fun K2 hK2=>T.seq fun K3 hK3=>T.region (rp (Pu.fieldAddr fd24_0 rfl) (rq (Qt.ldB 0 ty3 rfl rfl rfl) ?_))
 obtain ⟨x2,hx2,H⟩:=bindE H
 refine rq (Qt.call (vs:=[.int .i64 a0_g.w]) ent63 rfl fun w s=>ground_Side_walk a0_g.w w  hx2) (rp (Pu.not rfl) (rM rfl ?_))
 refine RS.joinB H 5 12 (fun b5=>.bool b5) [(1,_)] ⟨rfl,trivial⟩ ?_ ?_
 ·intro b5 H
  refine rM rfl ?_
  obtain ⟨g8,H⟩:=gdE H
  refine RS.joinV 10 23 (.bool (decide ((b5 = true) ∨ (¬ (a0_g.tiles.length:Int) = (a0_g.w * a0_g.h))))) [(1,_)] ⟨rfl,trivial⟩ ?_ ?_
  ·refine RS.nil (hK3 _ _ ?_)
   refine T.condP rfl (fun hc9=>?_) (fun hc9=>?_)
   ·have H:=ifT hc9 H
    refine T.seq fun K4 hK4=>T.region (rA rfl (RS.nil (hK4 _ _ ?_)))
    obtain rfl:=sj H
    refine T.rt (Cont.ret1 rfl rfl fun w' s=>?_)
    exact ⟨rfl,s.ext⟩
   ·have H:=ifF hc9 H
    refine T.skip (hK2 _ _ ?_)
    refine T.seq fun K5 hK5=>T.region (rp (Pu.fieldAddr fd24_2 rfl) (rq (Qt.ldB 0 ty22 rfl rfl rfl) ?_))
    obtain ⟨x10,hx10,H⟩:=bindE H
    refine rq (Qt.call (vs:=[.slice p0 a0_g.tiles.length c0]) ent64 rfl fun w s=>slices_Max_walk a0_g.tiles w ((Rd.base h0) w s) hx10) (rp (Pu.bin rfl rfl rfl) (rA rfl (RS.nil (hK5 _ _ (cq [(2,_)] ?_)))))
    obtain rfl:=sj H
    refine T.rt (Cont.ret1 rfl rfl fun w' s=>?_)
    exact ⟨rfl,s.ext⟩
  ·intro hJ7
   refine RS.split 13 rfl (fun hc6=>?_) (fun hc6=>?_)
   ·refine ro (ro (ro (ro (ro (ro (ro (ro (ro (rp (Pu.pickT rfl rfl) ?_)))))))))
    exact hJ7 _ _ ⟨dOrT hc6,rfl,trivial⟩ (fun w s=>s)
   ·refine rp (Pu.fieldAddr fd24_2 rfl) (rq (Qt.ldB 0 ty22 rfl rfl rfl) (rp (Pu.lenSl sl22 rfl) (rp (Pu.fieldAddr fd24_0 rfl) (rq (Qt.ldB 0 ty3 rfl rfl rfl) (rp (Pu.fieldAddr fd24_1 rfl) (rq (Qt.ldB 0 ty3 rfl rfl rfl) (rp (Pu.mulS rfl rfl (g8 (bne_of hc6))) (rp (Pu.bin rfl rfl rfl) (rp (Pu.pickF rfl rfl) ?_)))))))))
    exact hJ7 _ _ ⟨dOrF (bne_of hc6),rfl,trivial⟩ (fun w s=>s)
 ·intro z11 H hJ4
  refine RS.split 7 rfl (fun hc3=>?_) (fun hc3=>?_)
  ·have H:=ifT hc3 H
   refine ro (ro (ro (ro (rp (Pu.pickT rfl rfl) ?_))))
   obtain rfl:=sj H
   exact hJ4 _ _ ⟨rfl,rfl,trivial⟩ (fun w s=>s)
  ·have H:=ifB hc3 H
   refine rp (Pu.fieldAddr fd24_1 rfl) (rq (Qt.ldB 0 ty3 rfl rfl rfl) ?_)
   obtain ⟨x12,hx12,H⟩:=bindE H
   refine rq (Qt.call (vs:=[.int .i64 a0_g.h]) ent63 rfl fun w s=>ground_Side_walk a0_g.h w  hx12) (rp (Pu.not rfl) (rp (Pu.pickF rfl rfl) ?_))
   obtain rfl:=sj H
   exact hJ4 _ _ ⟨rfl,rfl,trivial⟩ (fun w s=>s)
end Go.Proofs.YtmngdgclldkcfaaGreat
set_option linter.unusedVariables false
set_option linter.unusedSimpArgs false
set_option maxRecDepth 20000
set_option maxHeartbeats 4000000
namespace Go.Proofs.YtmngdgclldkcfaaGreat
open Go.Vg
open Enc (R)
theorem ent112:Ent Tryz.prog 112:=⟨_,_,Tryz.func112,by kernel_rfl,rfl⟩
theorem ent16:Ent Tryz.prog 16:=⟨_,_,Tryz.func16,by kernel_rfl,rfl⟩
theorem ent164:Ent Tryz.prog 164:=⟨_,_,Tryz.func164,by kernel_rfl,rfl⟩
theorem ent165:Ent Tryz.prog 165:=⟨_,_,Tryz.func165,by kernel_rfl,rfl⟩
theorem ent166:Ent Tryz.prog 166:=⟨_,_,Tryz.func166,by kernel_rfl,rfl⟩
theorem ent167:Ent Tryz.prog 167:=⟨_,_,Tryz.func167,by kernel_rfl,rfl⟩
theorem ent168:Ent Tryz.prog 168:=⟨_,_,Tryz.func168,by kernel_rfl,rfl⟩
theorem ent183:Ent Tryz.prog 183:=⟨_,_,Tryz.func183,by kernel_rfl,rfl⟩
theorem ent236:Ent Tryz.prog 236:=⟨_,_,Tryz.func236,by kernel_rfl,rfl⟩
theorem ent237:Ent Tryz.prog 237:=⟨_,_,Tryz.func237,by kernel_rfl,rfl⟩
theorem ent74:Ent Tryz.prog 74:=⟨_,_,Tryz.func74,by kernel_rfl,rfl⟩
theorem fd135_0:fdOff Tryz.prog 135 0 = some 0:=by kernel_rfl
theorem fd135_1:fdOff Tryz.prog 135 1 = some 1:=by kernel_rfl
theorem fd135_2:fdOff Tryz.prog 135 2 = some 2:=by kernel_rfl
theorem fd135_3:fdOff Tryz.prog 135 3 = some 3:=by kernel_rfl
theorem fd135_4:fdOff Tryz.prog 135 4 = some 4:=by kernel_rfl
theorem fd135_5:fdOff Tryz.prog 135 5 = some 5:=by kernel_rfl
theorem ty24:tySz Tryz.prog 24 = some (3,true):=by kernel_rfl
theorem zr4:zeroOf Tryz.prog 4 = some (.bool false):=by kernel_rfl
theorem build_form_walk (a0_b:Bld) (w:World) {r:Bool} (H:build_form a0_b = some r):Calls Tryz.prog 165 #[.agg #[.int .i64 a0_b.id,.int .i64 a0_b.owner,.int .i64 a0_b.x,.int .i64 a0_b.y,.int .i64 a0_b.w,.int .i64 a0_b.h]] w fun e w'=>e = .returned (.bool r)∧Ext w w':=by
 unfold build_form at H
 refine T.enter (args:=[_]) (S:=Sat w []) Tryz.func165 rfl rfl (Sat.start w) ?_
 refine T.seq fun K1 hK1=>T.region (RS.solid (Sd.box (cs:=[_,_,_,_,_,_]) rfl rfl) rfl rfl fun b1=>rA rfl (RS.nil (hK1 _ _ ?_)))
 refine T.seq fun K2 hK2=>T.region (rp (Pu.fieldAddr fd135_0 rfl) (rq (Qt.ldB 0 ty3 rfl rfl rfl) (rp (Pu.bin rfl rfl rfl) (rM rfl ?_))))
 refine RS.joinV 4 10 (.bool (decide ((1 ≤ a0_b.id)∧(a0_b.id ≤ 1099511627776)))) [(1,_),(2,_)] ⟨rfl,rfl,trivial⟩ ?_ ?_
 ·refine rM rfl ?_
  refine RS.joinV 4 15 (.bool (decide (((1 ≤ a0_b.id)∧(a0_b.id ≤ 1099511627776))∧(1 ≤ a0_b.owner)))) [(1,_),(2,_)] ⟨rfl,rfl,trivial⟩ ?_ ?_
  ·refine rM rfl ?_
   refine RS.joinV 4 20 (.bool (decide ((((1 ≤ a0_b.id)∧(a0_b.id ≤ 1099511627776))∧(1 ≤ a0_b.owner))∧(a0_b.owner ≤ 8)))) [(1,_),(2,_)] ⟨rfl,rfl,trivial⟩ ?_ ?_
   ·refine rM rfl ?_
    refine RS.joinV 4 25 (.bool (decide (((((1 ≤ a0_b.id)∧(a0_b.id ≤ 1099511627776))∧(1 ≤ a0_b.owner))∧(a0_b.owner ≤ 8))∧(1 ≤ a0_b.w)))) [(1,_),(2,_)] ⟨rfl,rfl,trivial⟩ ?_ ?_
    ·refine rM rfl ?_
     refine RS.joinV 4 30 (.bool (decide ((((((1 ≤ a0_b.id)∧(a0_b.id ≤ 1099511627776))∧(1 ≤ a0_b.owner))∧(a0_b.owner ≤ 8))∧(1 ≤ a0_b.w))∧(a0_b.w ≤ 4)))) [(1,_),(2,_)] ⟨rfl,rfl,trivial⟩ ?_ ?_
     ·refine rM rfl ?_
      refine RS.joinV 4 35 (.bool (decide (((((((1 ≤ a0_b.id)∧(a0_b.id ≤ 1099511627776))∧(1 ≤ a0_b.owner))∧(a0_b.owner ≤ 8))∧(1 ≤ a0_b.w))∧(a0_b.w ≤ 4))∧(1 ≤ a0_b.h)))) [(1,_),(2,_)] ⟨rfl,rfl,trivial⟩ ?_ ?_
      ·refine rM rfl ?_
       refine RS.joinV 4 40 (.bool (decide ((((((((1 ≤ a0_b.id)∧(a0_b.id ≤ 1099511627776))∧(1 ≤ a0_b.owner))∧(a0_b.owner ≤ 8))∧(1 ≤ a0_b.w))∧(a0_b.w ≤ 4))∧(1 ≤ a0_b.h))∧(a0_b.h ≤ 4)))) [(2,_)] ⟨rfl,trivial⟩ ?_ ?_
       ·refine rA rfl (RS.nil (hK2 _ _ ?_))
        obtain rfl:=sj H
        refine T.rt (Cont.ret1 rfl rfl fun w' s=>?_)
        exact ⟨rfl,s.ext⟩
       ·intro hJ15
        refine RS.splitP 36 rfl (fun hc14=>?_) (fun hc14=>?_)
        ·refine rp (Pu.fieldAddr fd135_5 rfl) (rq (Qt.ldB 0 ty3 rfl rfl rfl) (rp (Pu.bin rfl rfl rfl) (rp (Pu.pickT rfl rfl) ?_)))
         exact hJ15 _ _ ⟨dAndT hc14,rfl,trivial⟩ (fun w s=>s)
        ·refine ro (ro (ro (rp (Pu.pickF rfl rfl) ?_)))
         exact hJ15 _ _ ⟨dAndF hc14,rfl,trivial⟩ (fun w s=>s)
      ·intro hJ13
       refine RS.splitP 31 rfl (fun hc12=>?_) (fun hc12=>?_)
       ·refine rp (Pu.fieldAddr fd135_5 rfl) (rq (Qt.ldB 0 ty3 rfl rfl rfl) (rp (Pu.bin rfl rfl rfl) (rp (Pu.pickT rfl rfl) ?_)))
        exact hJ13 _ _ ⟨dAndT hc12,rfl,rfl,trivial⟩ (fun w s=>s)
       ·refine ro (ro (ro (rp (Pu.pickF rfl rfl) ?_)))
        exact hJ13 _ _ ⟨dAndF hc12,rfl,rfl,trivial⟩ (fun w s=>s)
     ·intro hJ11
      refine RS.splitP 26 rfl (fun hc10=>?_) (fun hc10=>?_)
      ·refine rp (Pu.fieldAddr fd135_4 rfl) (rq (Qt.ldB 0 ty3 rfl rfl rfl) (rp (Pu.bin rfl rfl rfl) (rp (Pu.pickT rfl rfl) ?_)))
       exact hJ11 _ _ ⟨dAndT hc10,rfl,rfl,trivial⟩ (fun w s=>s)
      ·refine ro (ro (ro (rp (Pu.pickF rfl rfl) ?_)))
       exact hJ11 _ _ ⟨dAndF hc10,rfl,rfl,trivial⟩ (fun w s=>s)
    ·intro hJ9
     refine RS.splitP 21 rfl (fun hc8=>?_) (fun hc8=>?_)
     ·refine rp (Pu.fieldAddr fd135_4 rfl) (rq (Qt.ldB 0 ty3 rfl rfl rfl) (rp (Pu.bin rfl rfl rfl) (rp (Pu.pickT rfl rfl) ?_)))
      exact hJ9 _ _ ⟨dAndT hc8,rfl,rfl,trivial⟩ (fun w s=>s)
     ·refine ro (ro (ro (rp (Pu.pickF rfl rfl) ?_)))
      exact hJ9 _ _ ⟨dAndF hc8,rfl,rfl,trivial⟩ (fun w s=>s)
   ·intro hJ7
    refine RS.splitP 16 rfl (fun hc6=>?_) (fun hc6=>?_)
    ·refine rp (Pu.fieldAddr fd135_1 rfl) (rq (Qt.ldB 0 ty3 rfl rfl rfl) (rp (Pu.bin rfl rfl rfl) (rp (Pu.pickT rfl rfl) ?_)))
     exact hJ7 _ _ ⟨dAndT hc6,rfl,rfl,trivial⟩ (fun w s=>s)
    ·refine ro (ro (ro (rp (Pu.pickF rfl rfl) ?_)))
     exact hJ7 _ _ ⟨dAndF hc6,rfl,rfl,trivial⟩ (fun w s=>s)
  ·intro hJ5
   refine RS.splitP 11 rfl (fun hc4=>?_) (fun hc4=>?_)
   ·refine rp (Pu.fieldAddr fd135_1 rfl) (rq (Qt.ldB 0 ty3 rfl rfl rfl) (rp (Pu.bin rfl rfl rfl) (rp (Pu.pickT rfl rfl) ?_)))
    exact hJ5 _ _ ⟨dAndT hc4,rfl,rfl,trivial⟩ (fun w s=>s)
   ·refine ro (ro (ro (rp (Pu.pickF rfl rfl) ?_)))
    exact hJ5 _ _ ⟨dAndF hc4,rfl,rfl,trivial⟩ (fun w s=>s)
 ·intro hJ3
  refine RS.splitP 6 rfl (fun hc2=>?_) (fun hc2=>?_)
  ·refine rp (Pu.fieldAddr fd135_0 rfl) (rq (Qt.ldB 0 ty3 rfl rfl rfl) (rp (Pu.bin rfl rfl rfl) (rp (Pu.pickT rfl rfl) ?_)))
   exact hJ3 _ _ ⟨dAndT hc2,rfl,rfl,trivial⟩ (fun w s=>s)
  ·refine ro (ro (ro (rp (Pu.pickF rfl rfl) ?_)))
   exact hJ3 _ _ ⟨dAndF hc2,rfl,rfl,trivial⟩ (fun w s=>s)
theorem build_on_walk (a0_g:Grd) (a1_b:Bld) (w:World) {v0:Value} (h0:R (hpOf w) a0_g.tiles [v0]) {r:Bool} (H:build_on a0_g a1_b = some r):Calls Tryz.prog 166 #[.agg #[.int .i64 a0_g.w,.int .i64 a0_g.h,v0],.agg #[.int .i64 a1_b.id,.int .i64 a1_b.owner,.int .i64 a1_b.x,.int .i64 a1_b.y,.int .i64 a1_b.w,.int .i64 a1_b.h]] w fun e w'=>e = .returned (.bool r)∧Ext w w':=by
 have hm0:=R_max h0
 obtain ⟨p0,c0,rfl⟩:=R_form h0
 unfold build_on at H
 refine T.enter (args:=[_,_]) (S:=Sat w []) Tryz.func166 rfl rfl (Sat.start w) ?_
 refine T.seq fun K1 hK1=>T.region (RS.solid (Sd.box (cs:=[_,_,_]) rfl rfl) rfl rfl fun b1=>RS.solid (Sd.box (cs:=[_,_,_,_,_,_]) rfl rfl) rfl rfl fun b2=>rA rfl (RS.nil (hK1 _ _ (cq [(2,_),(3,_)] ?_))))
 refine T.seq fun K2 hK2=>T.region (rp (Pu.fieldAddr fd135_2 rfl) (rq (Qt.ldB 1 ty3 rfl rfl rfl) (rp (Pu.bin rfl rfl rfl) (rM rfl ?_))))
 obtain ⟨g5,H⟩:=gdE H
 refine RS.joinV 9 17 (.bool (decide ((0 ≤ a1_b.x)∧(a1_b.x ≤ (a0_g.w - a1_b.w))))) [(2,_),(3,_)] ⟨rfl,rfl,trivial⟩ ?_ ?_
 ·refine rM rfl ?_
  refine RS.joinV 4 22 (.bool (decide (((0 ≤ a1_b.x)∧(a1_b.x ≤ (a0_g.w - a1_b.w)))∧(0 ≤ a1_b.y)))) [(2,_),(3,_)] ⟨rfl,rfl,trivial⟩ ?_ ?_
  ·refine rM rfl ?_
   obtain ⟨g10,H⟩:=gdE H
   refine RS.joinV 9 32 (.bool (decide ((((0 ≤ a1_b.x)∧(a1_b.x ≤ (a0_g.w - a1_b.w)))∧(0 ≤ a1_b.y))∧(a1_b.y ≤ (a0_g.h - a1_b.h))))) [] trivial ?_ ?_
   ·refine rA rfl (RS.nil (hK2 _ _ ?_))
    obtain rfl:=sj H
    refine T.rt (Cont.ret1 rfl rfl fun w' s=>?_)
    exact ⟨rfl,s.ext⟩
   ·intro hJ9
    refine RS.splitP 23 rfl (fun hc8=>?_) (fun hc8=>?_)
    ·refine rp (Pu.fieldAddr fd135_3 rfl) (rq (Qt.ldB 1 ty3 rfl rfl rfl) (rp (Pu.fieldAddr fd24_1 rfl) (rq (Qt.ldB 0 ty3 rfl rfl rfl) (rp (Pu.fieldAddr fd135_5 rfl) (rq (Qt.ldB 1 ty3 rfl rfl rfl) (rp (Pu.subS rfl rfl (g10 hc8)) (rp (Pu.bin rfl rfl rfl) (rp (Pu.pickT rfl rfl) ?_))))))))
     exact hJ9 _ _ ⟨dAndT hc8,trivial⟩ (fun w s=>s)
    ·refine ro (ro (ro (ro (ro (ro (ro (ro (rp (Pu.pickF rfl rfl) ?_))))))))
     exact hJ9 _ _ ⟨dAndF hc8,trivial⟩ (fun w s=>s)
  ·intro hJ7
   refine RS.splitP 18 rfl (fun hc6=>?_) (fun hc6=>?_)
   ·refine rp (Pu.fieldAddr fd135_3 rfl) (rq (Qt.ldB 1 ty3 rfl rfl rfl) (rp (Pu.bin rfl rfl rfl) (rp (Pu.pickT rfl rfl) ?_)))
    exact hJ7 _ _ ⟨dAndT hc6,rfl,rfl,trivial⟩ (fun w s=>s)
   ·refine ro (ro (ro (rp (Pu.pickF rfl rfl) ?_)))
    exact hJ7 _ _ ⟨dAndF hc6,rfl,rfl,trivial⟩ (fun w s=>s)
 ·intro hJ4
  refine RS.splitP 8 rfl (fun hc3=>?_) (fun hc3=>?_)
  ·refine rp (Pu.fieldAddr fd135_2 rfl) (rq (Qt.ldB 1 ty3 rfl rfl rfl) (rp (Pu.fieldAddr fd24_0 rfl) (rq (Qt.ldB 0 ty3 rfl rfl rfl) (rp (Pu.fieldAddr fd135_4 rfl) (rq (Qt.ldB 1 ty3 rfl rfl rfl) (rp (Pu.subS rfl rfl (g5 hc3)) (rp (Pu.bin rfl rfl rfl) (rp (Pu.pickT rfl rfl) ?_))))))))
   exact hJ4 _ _ ⟨dAndT hc3,rfl,rfl,trivial⟩ (fun w s=>s)
  ·refine ro (ro (ro (ro (ro (ro (ro (ro (rp (Pu.pickF rfl rfl) ?_))))))))
   exact hJ4 _ _ ⟨dAndF hc3,rfl,rfl,trivial⟩ (fun w s=>s)
theorem build_Tiles_walk (a0_g:Grd) (a1_b:Bld) (w:World) {v0:Value} (h0:R (hpOf w) a0_g.tiles [v0]) {r:List Int} (H:build_Tiles a0_g a1_b = some r):Calls Tryz.prog 168 #[.agg #[.int .i64 a0_g.w,.int .i64 a0_g.h,v0],.agg #[.int .i64 a1_b.id,.int .i64 a1_b.owner,.int .i64 a1_b.x,.int .i64 a1_b.y,.int .i64 a1_b.w,.int .i64 a1_b.h]] w fun e w'=>∃ q1:(Option Nat × Nat),e = .returned (rowV q1 r.length)∧Sat w [row nilH 3 (rowV q1 r.length) r] w':=by
 have hm0:=R_max h0
 obtain ⟨p0,c0,rfl⟩:=R_form h0
 unfold build_Tiles at H
 refine T.enter (args:=[_,_]) (S:=Sat w []) Tryz.func168 rfl rfl (Sat.start w) ?_
 refine T.seq fun K1 hK1=>T.region (RS.solid (Sd.box (cs:=[_,_,_]) rfl rfl) rfl rfl fun b1=>RS.solid (Sd.box (cs:=[_,_,_,_,_,_]) rfl rfl) rfl rfl fun b2=>rA rfl (RS.nil (hK1 _ _ ?_)))
 refine T.seq fun K2 hK2=>T.seq fun K3 hK3=>T.region (rp (Pu.fieldAddr fd135_5 rfl) (rq (Qt.ldB 1 ty3 rfl rfl rfl) (rM rfl (RS.nil (hK3 _ _ (cq [(2,_),(3,_),(4,_),(8,_),(9,_)] ?_))))))
 refine T.joinE (σ:=List Int) (γ:=(Option Nat × Nat)) H (fun s=>s) [] trivial (fun v4 q5=>[(4,rowV q5 v4.length)]) (fun v4 q5=>Sat w [blk b1 [.int .i64 a0_g.w,.int .i64 a0_g.h,.slice p0 a0_g.tiles.length c0] 24,blk b2 [.int .i64 a1_b.id,.int .i64 a1_b.owner,.int .i64 a1_b.x,.int .i64 a1_b.y,.int .i64 a1_b.w,.int .i64 a1_b.h] 135,row nilH 3 (rowV q5 v4.length) v4]) ?_ ?_
 ·rintro v4 q5 H
  try dsimp only [Ex.then] at H
  refine Cont.conseq (fr':=[(4,_)]) ?_ ⟨rfl,trivial⟩ (fun _ s=>s)
  refine id (hK2 _ _ ?_)
  refine T.seq fun K4 hK4=>T.region (rM rfl (rA rfl (RS.nil (hK4 _ _ ?_))))
  obtain rfl:=sj H
  refine T.rt (Cont.ret1 rfl rfl fun w' s=>?_)
  exact ⟨q5,rfl,s.pick [2] (by decide) rfl⟩
 ·intro z3 hz3 HX3 hJ3
  refine T.block ?_
  refine T.loopA (γ:=(Option Nat × Nat)) hz3 [(2,_),(3,_),(8,_)] (fun (l6,v8) q7=>[(4,rowV q7 l6.length),(9,.int .i64 v8)]) (fun (l6,v8) q7=>Sat w [blk b1 [.int .i64 a0_g.w,.int .i64 a0_g.h,.slice p0 a0_g.tiles.length c0] 24,blk b2 [.int .i64 a1_b.id,.int .i64 a1_b.owner,.int .i64 a1_b.x,.int .i64 a1_b.y,.int .i64 a1_b.w,.int .i64 a1_b.h] 135,row nilH 3 (rowV q7 l6.length) l6]) (none,0) ⟨rfl,rfl,rfl,trivial⟩ ⟨rfl,rfl,trivial⟩ (fun w s=>(s.nilRow (α:=Int) 3).pick [0,1,2] (by decide) rfl) ?_
  rintro ⟨l6,v8⟩ q7 y9 H hd3 KL3 hL3
  try dsimp only [Ex.then] at H
  refine cq [(4,_),(9,_),(2,_),(3,_),(8,_)] ?_
  refine T.seq fun K5 hK5=>T.region (rp (Pu.bin rfl rfl rfl) (RS.nil (hK5 _ _ ?_)))
  refine T.seq fun K6 hK6=>?_
  refine T.condP rfl (fun hc10=>?_) (fun hc10=>?_)
  ·have H:=ifT hc10 H
   refine T.skip (hK6 _ _ ?_)
   refine T.seq fun K7 hK7=>T.block (T.seq fun K8 hK8=>T.region (rM rfl (rA rfl (RS.nil (hK8 _ _ ?_)))))
   refine T.seq fun K9 hK9=>T.region (rp (Pu.fieldAddr fd135_4 rfl) (rq (Qt.ldB 1 ty3 rfl rfl rfl) (rM rfl (RS.nil (hK9 _ _ (cq [(2,_),(3,_),(4,_),(5,_),(8,_),(9,_),(13,_),(14,_)] ?_))))))
   refine T.joinE (σ:=List Int) (γ:=(Option Nat × Nat)) H (fun s=>s) [(2,_),(3,_),(8,_),(9,_)] ⟨rfl,rfl,rfl,rfl,trivial⟩ (fun v12 q13=>[(4,rowV q13 v12.length)]) (fun v12 q13=>Sat w [blk b1 [.int .i64 a0_g.w,.int .i64 a0_g.h,.slice p0 a0_g.tiles.length c0] 24,blk b2 [.int .i64 a1_b.id,.int .i64 a1_b.owner,.int .i64 a1_b.x,.int .i64 a1_b.y,.int .i64 a1_b.w,.int .i64 a1_b.h] 135,row nilH 3 (rowV q13 v12.length) v12]) ?_ ?_
   ·rintro v12 q13 H
    try dsimp only [Ex.then] at H
    refine Cont.conseq (fr':=[(4,_),(2,_),(3,_),(8,_),(9,_)]) ?_ ⟨rfl,rfl,rfl,rfl,rfl,trivial⟩ (fun _ s=>s)
    refine id (hK7 _ _ ?_)
    refine T.region ?_
    obtain ⟨g14,H⟩:=gdE H
    refine rp (Pu.addS rfl rfl g14) (rM rfl (RS.nil (hL3 _ _ (v12,(v8 + 1)) q13 H ⟨rfl,rfl,rfl,trivial⟩ ⟨rfl,rfl,trivial⟩ (fun w s=>s))))
   ·intro z11 hz11 HX11 hJ11
    refine T.block ?_
    refine T.loopA (γ:=(Option Nat × Nat)) hz11 [(2,_),(3,_),(5,_),(8,_),(9,_),(13,_)] (fun (v15,l16) q17=>[(4,rowV q17 l16.length),(14,.int .i64 v15)]) (fun (v15,l16) q17=>Sat w [blk b1 [.int .i64 a0_g.w,.int .i64 a0_g.h,.slice p0 a0_g.tiles.length c0] 24,blk b2 [.int .i64 a1_b.id,.int .i64 a1_b.owner,.int .i64 a1_b.x,.int .i64 a1_b.y,.int .i64 a1_b.w,.int .i64 a1_b.h] 135,row nilH 3 (rowV q17 l16.length) l16]) q7 ⟨rfl,rfl,rfl,rfl,rfl,rfl,trivial⟩ ⟨rfl,rfl,trivial⟩ (fun w s=>s) ?_
    rintro ⟨v15,l16⟩ q17 y18 H hd11 KL11 hL11
    try dsimp only [Ex.then] at H
    refine cq [(4,_),(14,_),(2,_),(3,_),(5,_),(8,_),(9,_),(13,_)] ?_
    refine T.seq fun K10 hK10=>T.region (rp (Pu.bin rfl rfl rfl) (RS.nil (hK10 _ _ ?_)))
    refine T.seq fun K11 hK11=>?_
    refine T.condP rfl (fun hc19=>?_) (fun hc19=>?_)
    ·have H:=ifT hc19 H
     refine T.skip (hK11 _ _ ?_)
     refine T.seq fun K12 hK12=>T.block (T.seq fun K13 hK13=>T.region (rM rfl (rA rfl (RS.nil (hK13 _ _ ?_)))))
     refine T.region (rM rfl (rp (Pu.fieldAddr fd135_2 rfl) (rq (Qt.ldB 1 ty3 rfl rfl rfl) (rM rfl ?_))))
     obtain ⟨g20,H⟩:=gdE H
     refine rp (Pu.addS rfl rfl g20) (rp (Pu.fieldAddr fd24_0 rfl) (rq (Qt.ldB 0 ty3 rfl rfl rfl) (rp (Pu.fieldAddr fd135_3 rfl) (rq (Qt.ldB 1 ty3 rfl rfl rfl) (rM rfl ?_)))))
     obtain ⟨g21,H⟩:=gdE H
     refine rp (Pu.addS rfl rfl g21) ?_
     obtain ⟨g22,H⟩:=gdE H
     refine rp (Pu.mulS rfl rfl g22) ?_
     obtain ⟨g23,H⟩:=gdE H
     refine rp (Pu.addS rfl rfl g23) (RS.solid (Sd.litS (cs:=[_]) sl35 zr3 rfl rfl rfl rfl rfl) rfl rfl fun b24=>?_)
     obtain ⟨g26,H⟩:=gdE H
     refine RS.solid (Sd.app1c (α:=Int) 2 3 ((a1_b.x + v15) + (a0_g.w * (a1_b.y + v8))) rfl rfl (nilH_lt _) sl35 zr3 rfl rfl rfl rfl g26 (by decide)) rfl rfl fun q25=>rA rfl (RS.nil (hK12 _ _ (cq [(2,_),(3,_),(4,_),(5,_),(8,_),(9,_),(13,_),(14,_)] ?_)))
     refine T.region ?_
     obtain ⟨g27,H⟩:=gdE H
     refine rp (Pu.addS rfl rfl g27) (rM rfl (RS.nil (hL11 _ _ ((v15 + 1),(l16 ++ [((a1_b.x + v15) + (a0_g.w * (a1_b.y + v8)))])) q25 H ⟨rfl,rfl,rfl,rfl,rfl,rfl,trivial⟩ ⟨rfl,rfl,trivial⟩ (fun w s=>s.pick [0,1,2] (by decide) rfl))))
    ·have H:=ifF hc19 H
     obtain rfl:=hd11 _ H
     refine T.xt (hJ11 _ _ l16 q17 HX11 ⟨rfl,rfl,rfl,rfl,trivial⟩ ⟨rfl,trivial⟩ (fun w s=>s))
  ·have H:=ifF hc10 H
   obtain rfl:=hd3 _ H
   refine T.xt (hJ3 _ _ l6 q7 HX3 trivial ⟨rfl,trivial⟩ (fun w s=>s))
theorem build_firm_1_walk (a0_t:Int) (cv0:Grd) (w:World) {v0:Value} {p1g:Nat} (hb1:blk p1g [.int .i64 cv0.w,.int .i64 cv0.h,v0] 24 (hpOf w)) (h0:R (hpOf w) cv0.tiles [v0]) {r:Bool} (H:build_firm_1 a0_t cv0 = some r):Calls Tryz.prog 237 #[.int .i64 a0_t,.pointer (some ⟨p1g,0,none⟩)] w fun e w'=>e = .returned (.bool r)∧Ext w w':=by
 have hm0:=R_max h0
 obtain ⟨p0,c0,rfl⟩:=R_form h0
 unfold build_firm_1 at H
 refine T.enter (args:=[_,_]) (S:=Sat w []) Tryz.func237 rfl rfl (Sat.start w) ?_
 refine T.seq fun K1 hK1=>T.region (rA rfl (RS.nil (hK1 _ _ ?_)))
 refine T.seq fun K2 hK2=>T.region (rp (Pu.fieldAddr fd24_2 rfl) (rq (Qt.ldX ty22 rfl hb1 (fun w s=>s.ext) rfl) (rM rfl ?_)))
 obtain ⟨g1,H⟩:=gdE H
 obtain ⟨bl2,ol3,rfl⟩:=R_ptr h0 (ne_of_pos (pos_of g1))
 refine rp (Pu.indexSl sl22 rfl rfl g1) (rq (Qt.ld0 (α:=UInt8) (Rd.base h0) ty5 rfl rfl g1 (by rintro _ _ rfl; rfl)) (rp (Pu.bin rfl rfl rfl) (rA rfl (RS.nil (hK2 _ _ (cq [(3,_)] ?_))))))
 obtain rfl:=sj H
 refine T.rt (Cont.ret1 rfl rfl fun w' s=>?_)
 exact ⟨rfl,s.ext⟩
theorem build_firm_walk (a0_g:Grd) (a1_b:Bld) (w:World) {v0:Value} (h0:R (hpOf w) a0_g.tiles [v0]) {r:Bool} (H:build_firm a0_g a1_b = some r):Calls Tryz.prog 167 #[.agg #[.int .i64 a0_g.w,.int .i64 a0_g.h,v0],.agg #[.int .i64 a1_b.id,.int .i64 a1_b.owner,.int .i64 a1_b.x,.int .i64 a1_b.y,.int .i64 a1_b.w,.int .i64 a1_b.h]] w fun e w'=>e = .returned (.bool r)∧Ext w w':=by
 have hm0:=R_max h0
 obtain ⟨p0,c0,rfl⟩:=R_form h0
 unfold build_firm at H
 refine T.enter (args:=[_,_]) (S:=Sat w []) Tryz.func167 rfl rfl (Sat.start w) ?_
 refine T.seq fun K1 hK1=>T.region (RS.solid (Sd.box (cs:=[_,_,_]) rfl rfl) rfl rfl fun b1=>RS.solid (Sd.box (cs:=[_,_,_,_,_,_]) rfl rfl) rfl rfl fun b2=>rA rfl (RS.nil (hK1 _ _ (cq [(2,_),(3,_)] ?_))))
 refine T.seq fun K2 hK2=>T.region (rq (Qt.ldBA (us:=[_,_,_]) 0 ty24 rfl rfl rfl rfl) (rq (Qt.ldBA (us:=[_,_,_,_,_,_]) 1 ty135 rfl rfl rfl rfl) ?_))
 obtain ⟨x3,hx3,H⟩:=bindE H
 refine RS.solid (Sd.callN (vs:=[.agg #[.int .i64 a0_g.w,.int .i64 a0_g.h,.slice p0 a0_g.tiles.length c0],.agg #[.int .i64 a1_b.id,.int .i64 a1_b.owner,.int .i64 a1_b.x,.int .i64 a1_b.y,.int .i64 a1_b.w,.int .i64 a1_b.h]]) ent168 rfl (fun w s=>build_Tiles_walk a0_g a1_b w ((Rd.base h0) w s) hx3)) rfl rfl fun q4=>rp (Pu.makeFunc rfl) ?_
 obtain ⟨x5,hx5,H⟩:=bindE H
 refine rq (Qt.call (vs:=[rowV q4 x3.length,.func (.func 237) #[] #[.pointer (some ⟨b1,0,none⟩)]]) ent236 rfl fun w s=>slices_ContainsFunc_walk x3 (fun y0=>build_firm_1 y0 a0_g) w ((Rd.ofRowN 2 rfl) w s) (⟨237,_,rfl,ent237,fun y0 r w' he hr=>build_firm_1_walk y0 a0_g w' (blk_ext he (blk_of s (k:=0) rfl)) (Enc.mono he.hp ((Rd.base h0) w s)) hr⟩) hx5) (rp (Pu.not rfl) (rA rfl (RS.nil (hK2 _ _ (cq [(4,_)] ?_)))))
 obtain rfl:=sj H
 refine T.rt (Cont.ret1 rfl rfl fun w' s=>?_)
 exact ⟨rfl,s.ext⟩
theorem build_rising_walk (a0_l:List Bld) (w:World) {v0:Value} (h0:R (hpOf w) a0_l [v0]) {r:Bool} (H:build_rising a0_l = some r):Calls Tryz.prog 164 #[v0] w fun e w'=>e = .returned (.bool r)∧Ext w w':=by
 have hm0:=R_max h0
 obtain ⟨p0,c0,rfl⟩:=R_form h0
 unfold build_rising at H
 refine T.enter (args:=[_]) (S:=Sat w []) Tryz.func164 rfl rfl (Sat.start w) ?_
 refine T.seq fun K1 hK1=>T.region (rA rfl (RS.nil (hK1 _ _ ?_)))
 refine T.seq fun K2 hK2=>T.seq fun K3 hK3=>T.region (rA rfl (RS.nil (hK3 _ _ ?_)))
 refine T.joinE (σ:=Unit) (γ:=Unit) H Ex.go [] trivial (fun _ _=>[]) (fun _ _=>Sat w []) ?_ ?_
 ·rintro ⟨⟩ ⟨⟩ H
  try dsimp only [Ex.then] at H
  refine Cont.conseq (fr':=[]) ?_ trivial (fun _ s=>s)
  refine id (hK2 _ _ ?_)
  refine T.seq fun K4 hK4=>T.region (rA rfl (RS.nil (hK4 _ _ ?_)))
  obtain rfl:=sj H
  refine T.rt (Cont.ret1 rfl rfl fun w' s=>?_)
  exact ⟨rfl,s.ext⟩
 ·intro z1 hz1 HX1 hJ1
  refine T.block ?_
  refine T.loopA (γ:=Unit) hz1 [(0,_)] (fun v2 _=>[(3,.int .i64 v2)]) (fun v2 _=>Sat w []) () ⟨rfl,trivial⟩ ⟨rfl,trivial⟩ (fun w s=>s) ?_
  rintro v2 ⟨⟩ y3 H hd1 KL1 hL1
  try dsimp only [Ex.then] at H
  refine cq [(3,_),(0,_)] ?_
  refine T.seq fun K5 hK5=>T.seq fun K6 hK6=>T.region (rM rfl (rM rfl (rp (Pu.lenSl sl49 rfl) (rp (Pu.bin rfl rfl rfl) (RS.nil (hK6 _ _ ?_))))))
  refine T.condP rfl (fun hc4=>?_) (fun hc4=>?_)
  ·have H:=ifT hc4 H
   refine T.skip (hK5 _ _ (cq [(0,_),(3,_)] ?_))
   refine T.seq fun K7 hK7=>T.block (T.seq fun K8 hK8=>?_)
   refine T.drawn (fun _=>True) [(0,.pu),(1,.pu),(2,.pu),(3,.pu),(4,.pu),(5,.rd),(6,.pu),(7,.pu),(8,.pu),(9,.pu),(10,.rd),(11,.pu)] mixed (ClE.sat _ _) (by kernel_rfl) ?_
   refine dp rfl (Pu.move rfl) (dp rfl (Pu.move rfl) ?_)
   obtain ⟨g5,H⟩:=gdE H
   refine dp rfl (Pu.subS rfl rfl g5) ?_
   obtain ⟨g6,H⟩:=gdE H
   obtain ⟨bl7,ol8,rfl⟩:=R_ptr h0 (ne_of_pos (pos_of g6))
   refine dp rfl (Pu.indexSl sl49 rfl rfl g6) (dp rfl (Pu.fieldAddr fd135_0 rfl) (dq rfl (Qt.ldF (α:=Bld) (Rd.base h0) ty3 rfl rfl g6 (by rintro _ _ rfl; rfl)) (dp rfl (Pu.move rfl) (dp rfl (Pu.move rfl) ?_))))
   obtain ⟨g9,H⟩:=gdE H
   refine dp rfl (Pu.indexSl sl49 rfl rfl g9) (dp rfl (Pu.fieldAddr fd135_0 rfl) (dq rfl (Qt.ldF (α:=Bld) (Rd.base h0) ty3 rfl rfl g9 (by rintro _ _ rfl; rfl)) (dp rfl (Pu.bin rfl rfl rfl) (RD.nil (hK8 _ _ ?_)))))
   refine T.condP rfl (fun hc10=>?_) (fun hc10=>?_)
   ·have H:=ifT hc10 H
    refine cq [] ?_
    refine T.seq fun K9 hK9=>T.region (rA rfl (RS.nil (hK9 _ _ ?_)))
    obtain rfl:=hd1 _ H
    have H:=HX1
    obtain rfl:=sj H
    refine T.rt (Cont.ret1 rfl rfl fun w' s=>?_)
    exact ⟨rfl,s.ext⟩
   ·have H:=ifF hc10 H
    refine T.skip (hK7 _ _ (cq [(0,_),(3,_)] ?_))
    refine T.region (rM rfl ?_)
    obtain ⟨g11,H⟩:=gdE H
    refine rp (Pu.addS rfl rfl g11) (rA rfl (RS.nil (hL1 _ _ (v2 + 1) () H ⟨rfl,trivial⟩ ⟨rfl,trivial⟩ (fun w s=>s))))
  ·have H:=ifF hc4 H
   obtain rfl:=hd1 _ H
   refine T.xt (hJ1 _ _ () () HX1 trivial trivial (fun w s=>s))
theorem build_May_walk (a0_g:Grd) (a1_l:List Bld) (w:World) {v0 v1:Value} (h0:R (hpOf w) a0_g.tiles [v0]) (h1:R (hpOf w) a1_l [v1]) {r:Bool} (H:build_May a0_g a1_l = some r):Calls Tryz.prog 111 #[.agg #[.int .i64 a0_g.w,.int .i64 a0_g.h,v0],v1] w fun e w'=>e = .returned (.bool r)∧Ext w w':=by
 have hm0:=R_max h0
 obtain ⟨p0,c0,rfl⟩:=R_form h0
 have hm1:=R_max h1
 obtain ⟨p1,c1,rfl⟩:=R_form h1
 unfold build_May at H
 refine T.enter (args:=[_,_]) (S:=Sat w []) Tryz.func111 rfl rfl (Sat.start w) ?_
 refine T.seq fun K1 hK1=>T.region (RS.solid (Sd.box (cs:=[_,_,_]) rfl rfl) rfl rfl fun b1=>rA rfl (RS.nil (hK1 _ _ ?_)))
 refine T.seq fun K2 hK2=>T.seq fun K3 hK3=>T.region (rM rfl (rp (Pu.lenSl sl49 rfl) (rp (Pu.bin rfl rfl rfl) (rM rfl ?_))))
 refine RS.joinB H 4 17 (fun b4=>.bool b4) [(1,_),(2,_)] ⟨rfl,rfl,trivial⟩ ?_ ?_
 ·intro b4 H
  refine RS.nil (hK3 _ _ ?_)
  refine T.cond rfl (fun hc5=>?_) (fun hc5=>?_)
  ·have H:=ifT hc5 H
   refine cq [] ?_
   refine T.seq fun K4 hK4=>T.region (rA rfl (RS.nil (hK4 _ _ ?_)))
   obtain rfl:=sj H
   refine T.rt (Cont.ret1 rfl rfl fun w' s=>?_)
   exact ⟨rfl,s.ext⟩
  ·have H:=ifB hc5 H
   refine T.skip (hK2 _ _ ?_)
   refine T.seq fun K5 hK5=>T.region (rp (Pu.fieldAddr fd24_2 rfl) (rq (Qt.ldB 0 ty22 rfl rfl rfl) (rp (Pu.lenSl sl22 rfl) ?_)))
   obtain ⟨g7,H⟩:=gdE H
   refine RS.solid (Sd.make (α:=Bool) (B:=nilH) false sl41 zr4 rfl (by decide) rfl rfl (by omega) (by omega) (by omega)) rfl rfl fun b6=>rA rfl (RS.nil (hK5 _ _ (cq [(1,_),(2,_),(5,_)] ?_)))
   refine T.seq fun K6 hK6=>T.seq fun K7 hK7=>T.region (rM rfl (rp (Pu.lenSl sl49 rfl) (rM rfl (RS.nil (hK7 _ _ ?_)))))
   refine T.joinE (σ:=Unit) (γ:=Unit) H Ex.go [] trivial (fun _ _=>[]) (fun _ _=>Sat w [blk b1 [.int .i64 a0_g.w,.int .i64 a0_g.h,.slice p0 a0_g.tiles.length c0] 24,dead]) ?_ ?_
   ·rintro ⟨⟩ ⟨⟩ H
    try dsimp only [Ex.then] at H
    refine Cont.conseq (fr':=[]) ?_ trivial (fun _ s=>s)
    refine id (hK6 _ _ ?_)
    refine T.seq fun K8 hK8=>T.region (rA rfl (RS.nil (hK8 _ _ ?_)))
    obtain rfl:=sj H
    refine T.rt (Cont.ret1 rfl rfl fun w' s=>?_)
    exact ⟨rfl,s.ext⟩
   ·intro z8 hz8 HX8 hJ8
    refine T.block ?_
    refine T.loopA (γ:=Unit) hz8 [(2,_),(5,_),(22,_),(23,_)] (fun (v9,l10) _=>[(24,.int .i64 v9)]) (fun (v9,l10) _=>Sat w [blk b1 [.int .i64 a0_g.w,.int .i64 a0_g.h,.slice p0 a0_g.tiles.length c0] 24,row nilH 4 (rowV (some b6,(a0_g.tiles.length:Int).toNat) ((a0_g.tiles.length:Int).toNat)) l10]) () ⟨rfl,rfl,rfl,rfl,trivial⟩ ⟨rfl,trivial⟩ (fun w s=>s) ?_
    rintro ⟨v9,l10⟩ ⟨⟩ y11 H hd8 KL8 hL8
    try dsimp only [Ex.then] at H
    refine cq [(24,_),(2,_),(5,_),(22,_),(23,_)] ?_
    refine T.seq fun K9 hK9=>T.region (rp (Pu.bin rfl rfl rfl) (RS.nil (hK9 _ _ ?_)))
    refine T.seq fun K10 hK10=>?_
    refine T.condP rfl (fun hc12=>?_) (fun hc12=>?_)
    ·have H:=ifT hc12 H
     refine T.skip (hK10 _ _ ?_)
     refine T.seq fun K11 hK11=>T.block (T.seq fun K12 hK12=>T.region ?_)
     obtain ⟨g13,H⟩:=gdE H
     obtain ⟨bl14,ol15,rfl⟩:=R_ptr h1 (ne_of_pos (pos_of g13))
     refine rp (Pu.indexSl sl49 rfl rfl g13) (rq (Qt.ldW (α:=Bld) (cs:=[_,_,_,_,_,_]) (Rd.base h1) ty135 rfl rfl g13 rfl (by rintro _ _ rfl; rfl)) (RS.solid (Sd.alloc zr135 rfl) rfl rfl fun b16=>RS.solid (Sd.stB (cs':=[_,_,_,_,_,_]) 2 ty135 rfl rfl rfl rfl rfl rfl rfl rfl) rfl rfl fun _=>RS.nil (hK12 _ _ (cq [(2,_),(5,_),(7,_),(22,_),(23,_),(24,_)] ?_))))
     refine T.seq fun K13 hK13=>T.seq fun K14 hK14=>T.region (rq (Qt.ldBA (us:=[_,_,_,_,_,_]) 2 ty135 rfl rfl rfl rfl) ?_)
     obtain ⟨x17,hx17,H⟩:=bindE H
     refine rq (Qt.call (vs:=[.agg #[.int .i64 ((gi a1_l v9).id),.int .i64 ((gi a1_l v9).owner),.int .i64 ((gi a1_l v9).x),.int .i64 ((gi a1_l v9).y),.int .i64 ((gi a1_l v9).w),.int .i64 ((gi a1_l v9).h)]]) ent165 rfl fun w s=>build_form_walk (gi a1_l v9) w  hx17) (rp (Pu.not rfl) (rM rfl ?_))
     refine RS.joinB H 5 36 (fun b20=>.bool b20) [(2,_),(5,_),(7,_),(22,_),(23,_),(24,_)] ⟨rfl,rfl,rfl,rfl,rfl,rfl,trivial⟩ ?_ ?_
     ·intro b20 H
      refine rM rfl ?_
      refine RS.joinB H 5 42 (fun b23=>.bool b23) [(2,_),(5,_),(7,_),(22,_),(23,_),(24,_)] ⟨rfl,rfl,rfl,rfl,rfl,rfl,trivial⟩ ?_ ?_
      ·intro b23 H
       refine RS.nil (hK14 _ _ ?_)
       refine T.cond rfl (fun hc24=>?_) (fun hc24=>?_)
       ·have H:=ifT hc24 H
        refine cq [] ?_
        refine T.seq fun K15 hK15=>T.region (rA rfl (RS.nil (hK15 _ _ ?_)))
        obtain rfl:=hd8 _ H
        have H:=HX8
        obtain rfl:=sj H
        refine T.rt (Cont.ret1 rfl rfl fun w' s=>?_)
        exact ⟨rfl,s.ext⟩
       ·have H:=ifB hc24 H
        refine T.skip (hK13 _ _ ?_)
        refine T.seq fun K16 hK16=>T.region (rq (Qt.ldBA (us:=[_,_,_]) 0 ty24 rfl rfl rfl rfl) (rq (Qt.ldBA (us:=[_,_,_,_,_,_]) 2 ty135 rfl rfl rfl rfl) ?_))
        obtain ⟨x25,hx25,H⟩:=bindE H
        refine RS.solid (Sd.callN (vs:=[.agg #[.int .i64 a0_g.w,.int .i64 a0_g.h,.slice p0 a0_g.tiles.length c0],.agg #[.int .i64 ((gi a1_l v9).id),.int .i64 ((gi a1_l v9).owner),.int .i64 ((gi a1_l v9).x),.int .i64 ((gi a1_l v9).y),.int .i64 ((gi a1_l v9).w),.int .i64 ((gi a1_l v9).h)]]) ent168 rfl (fun w s=>build_Tiles_walk a0_g (gi a1_l v9) w ((Rd.base h0) w s) hx25)) rfl rfl fun q26=>rp (Pu.lenSl sl35 rfl) (rM rfl (RS.nil (hK16 _ _ (cq [(2,_),(5,_),(22,_),(23,_),(24,_),(45,_),(46,_),(47,_)] ?_))))
        refine T.joinE (σ:=List Bool) (γ:=Unit) H Ex.go [(2,_),(5,_),(22,_),(23,_),(24,_)] ⟨rfl,rfl,rfl,rfl,rfl,trivial⟩ (fun v28 _=>[]) (fun v28 _=>Sat w [blk b1 [.int .i64 a0_g.w,.int .i64 a0_g.h,.slice p0 a0_g.tiles.length c0] 24,row nilH 4 (rowV (some b6,(a0_g.tiles.length:Int).toNat) ((a0_g.tiles.length:Int).toNat)) v28,blk b16 [.int .i64 ((gi a1_l v9).id),.int .i64 ((gi a1_l v9).owner),.int .i64 ((gi a1_l v9).x),.int .i64 ((gi a1_l v9).y),.int .i64 ((gi a1_l v9).w),.int .i64 ((gi a1_l v9).h)] 135,row nilH 3 (rowV q26 x25.length) x25]) ?_ ?_
        ·rintro v28 ⟨⟩ H
         try dsimp only [Ex.then] at H
         refine Cont.conseq (fr':=[(2,_),(5,_),(22,_),(23,_),(24,_)]) ?_ ⟨rfl,rfl,rfl,rfl,rfl,trivial⟩ (fun _ s=>s)
         refine id (hK11 _ _ ?_)
         refine T.region ?_
         obtain ⟨g29,H⟩:=gdE H
         refine rp (Pu.addS rfl rfl g29) (rM rfl (RS.nil (hL8 _ _ ((v9 + 1),v28) () H ⟨rfl,rfl,rfl,rfl,trivial⟩ ⟨rfl,trivial⟩ (fun w s=>s.pick [0,1] (by decide) rfl))))
        ·intro z27 hz27 HX27 hJ27
         refine T.block ?_
         refine T.loopA (γ:=Unit) hz27 [(2,_),(5,_),(22,_),(23,_),(24,_),(45,_),(46,_)] (fun (v30,l31) _=>[(47,.int .i64 v30)]) (fun (v30,l31) _=>Sat w [blk b1 [.int .i64 a0_g.w,.int .i64 a0_g.h,.slice p0 a0_g.tiles.length c0] 24,row nilH 4 (rowV (some b6,(a0_g.tiles.length:Int).toNat) ((a0_g.tiles.length:Int).toNat)) l31,blk b16 [.int .i64 ((gi a1_l v9).id),.int .i64 ((gi a1_l v9).owner),.int .i64 ((gi a1_l v9).x),.int .i64 ((gi a1_l v9).y),.int .i64 ((gi a1_l v9).w),.int .i64 ((gi a1_l v9).h)] 135,row nilH 3 (rowV q26 x25.length) x25]) () ⟨rfl,rfl,rfl,rfl,rfl,rfl,rfl,trivial⟩ ⟨rfl,trivial⟩ (fun w s=>s) ?_
         rintro ⟨v30,l31⟩ ⟨⟩ y32 H hd27 KL27 hL27
         try dsimp only [Ex.then] at H
         refine cq [(47,_),(2,_),(5,_),(22,_),(23,_),(24,_),(45,_),(46,_)] ?_
         refine T.seq fun K17 hK17=>T.region (rp (Pu.bin rfl rfl rfl) (RS.nil (hK17 _ _ ?_)))
         refine T.seq fun K18 hK18=>?_
         refine T.condP rfl (fun hc33=>?_) (fun hc33=>?_)
         ·have H:=ifT hc33 H
          refine T.skip (hK18 _ _ ?_)
          refine T.seq fun K19 hK19=>T.block (T.seq fun K20 hK20=>T.region ?_)
          obtain ⟨g34,H⟩:=gdE H
          refine RS.know (p:=∃ g cap,q26 = (some g,cap)) (fun w s=>(s.row_some (k:=3) rfl (pos_of g34))) ?_
          rintro ⟨gg35,cc36,rfl⟩
          refine rp (Pu.indexSl sl35 rfl rfl g34) (rq (Qt.ld0 (α:=Int) (Rd.ofRowN 3 rfl) ty3 rfl rfl g34 (by rintro _ _ rfl; rfl)) (rA rfl (RS.nil (hK20 _ _ (cq [(2,_),(5,_),(9,_),(22,_),(23,_),(24,_),(45,_),(46,_),(47,_)] ?_)))))
          refine T.seq fun K21 hK21=>T.seq fun K22 hK22=>T.region (rM rfl (rM rfl ?_))
          obtain ⟨g37,H⟩:=gdE H
          refine RS.know (fun w s=>(s.row_fits (q:=(some b6,(a0_g.tiles.length:Int).toNat)) (m:=(a0_g.tiles.length:Int).toNat) (k:=1) rfl)) fun hf38=>?_
          refine rp (Pu.indexSl sl41 rfl rfl g37) (rq (Qt.ld0 (α:=Bool) (Rd.ofRowN 1 rfl) ty4 rfl rfl (idx_of hf38.1 g37) (by rintro _ _ rfl; rfl)) (RS.nil (hK22 _ _ ?_)))
          refine T.cond rfl (fun hc39=>?_) (fun hc39=>?_)
          ·have H:=ifT hc39 H
           refine cq [] ?_
           refine T.seq fun K23 hK23=>T.region (rA rfl (RS.nil (hK23 _ _ ?_)))
           obtain rfl:=hd27 _ H
           have H:=HX27
           obtain rfl:=hd8 _ H
           have H:=HX8
           obtain rfl:=sj H
           refine T.rt (Cont.ret1 rfl rfl fun w' s=>?_)
           exact ⟨rfl,s.ext⟩
          ·have H:=ifB hc39 H
           refine T.skip (hK21 _ _ (cq [(2,_),(5,_),(9,_),(22,_),(23,_),(24,_),(45,_),(46,_),(47,_)] ?_))
           refine T.region (rM rfl (rM rfl ?_))
           obtain ⟨g40,H⟩:=gdE H
           refine RS.know (fun w s=>(s.row_fits (q:=(some b6,(a0_g.tiles.length:Int).toNat)) (m:=(a0_g.tiles.length:Int).toNat) (k:=1) rfl)) fun hf41=>?_
           refine rp (Pu.indexSl sl41 rfl rfl g40) (RS.solid (Sd.st0 (α:=Bool) 1 true rfl ty4 rfl rfl rfl (idx_of hf41.1 g40) rfl rfl (by decide) rfl (by rintro _ _ rfl; rfl)) rfl rfl fun _=>RS.nil (hK19 _ _ (cq [(2,_),(5,_),(22,_),(23,_),(24,_),(45,_),(46,_),(47,_)] ?_)))
           refine T.region ?_
           obtain ⟨g42,H⟩:=gdE H
           refine rp (Pu.addS rfl rfl g42) (rM rfl (RS.nil (hL27 _ _ ((v30 + 1),(si l31 (gi x25 v30) true)) () H ⟨rfl,rfl,rfl,rfl,rfl,rfl,rfl,trivial⟩ ⟨rfl,trivial⟩ (fun w s=>s))))
         ·have H:=ifF hc33 H
          obtain rfl:=hd27 _ H
          refine T.xt (hJ27 _ _ l31 () HX27 ⟨rfl,rfl,rfl,rfl,rfl,trivial⟩ trivial (fun w s=>s))
      ·intro z43 H hJ22
       refine RS.split 37 rfl (fun hc21=>?_) (fun hc21=>?_)
       ·have H:=ifT hc21 H
        refine ro (ro (ro (ro (rp (Pu.pickT rfl rfl) ?_))))
        obtain rfl:=sj H
        exact hJ22 _ _ ⟨rfl,rfl,rfl,rfl,rfl,rfl,rfl,trivial⟩ (fun w s=>s)
       ·have H:=ifB hc21 H
        refine rq (Qt.ldBA (us:=[_,_,_]) 0 ty24 rfl rfl rfl rfl) (rq (Qt.ldBA (us:=[_,_,_,_,_,_]) 2 ty135 rfl rfl rfl rfl) ?_)
        obtain ⟨x44,hx44,H⟩:=bindE H
        refine rq (Qt.call (vs:=[.agg #[.int .i64 a0_g.w,.int .i64 a0_g.h,.slice p0 a0_g.tiles.length c0],.agg #[.int .i64 ((gi a1_l v9).id),.int .i64 ((gi a1_l v9).owner),.int .i64 ((gi a1_l v9).x),.int .i64 ((gi a1_l v9).y),.int .i64 ((gi a1_l v9).w),.int .i64 ((gi a1_l v9).h)]]) ent167 rfl fun w s=>build_firm_walk a0_g (gi a1_l v9) w ((Rd.base h0) w s) hx44) (rp (Pu.not rfl) (rp (Pu.pickF rfl rfl) ?_))
        obtain rfl:=sj H
        exact hJ22 _ _ ⟨rfl,rfl,rfl,rfl,rfl,rfl,rfl,trivial⟩ (fun w s=>s)
     ·intro z45 H hJ19
      refine RS.split 31 rfl (fun hc18=>?_) (fun hc18=>?_)
      ·have H:=ifT hc18 H
       refine ro (ro (ro (ro (rp (Pu.pickT rfl rfl) ?_))))
       obtain rfl:=sj H
       exact hJ19 _ _ ⟨rfl,rfl,rfl,rfl,rfl,rfl,rfl,trivial⟩ (fun w s=>s)
      ·have H:=ifB hc18 H
       refine rq (Qt.ldBA (us:=[_,_,_]) 0 ty24 rfl rfl rfl rfl) (rq (Qt.ldBA (us:=[_,_,_,_,_,_]) 2 ty135 rfl rfl rfl rfl) ?_)
       obtain ⟨x46,hx46,H⟩:=bindE H
       refine rq (Qt.call (vs:=[.agg #[.int .i64 a0_g.w,.int .i64 a0_g.h,.slice p0 a0_g.tiles.length c0],.agg #[.int .i64 ((gi a1_l v9).id),.int .i64 ((gi a1_l v9).owner),.int .i64 ((gi a1_l v9).x),.int .i64 ((gi a1_l v9).y),.int .i64 ((gi a1_l v9).w),.int .i64 ((gi a1_l v9).h)]]) ent166 rfl fun w s=>build_on_walk a0_g (gi a1_l v9) w ((Rd.base h0) w s) hx46) (rp (Pu.not rfl) (rp (Pu.pickF rfl rfl) ?_))
       obtain rfl:=sj H
       exact hJ19 _ _ ⟨rfl,rfl,rfl,rfl,rfl,rfl,rfl,trivial⟩ (fun w s=>s)
    ·have H:=ifF hc12 H
     obtain rfl:=hd8 _ H
     refine T.xt (hJ8 _ _ () () HX8 trivial trivial (fun w s=>(s.deadRow).pick [0,2] (by decide) rfl))
 ·intro z47 H hJ3
  refine RS.splitP 13 rfl (fun hc2=>?_) (fun hc2=>?_)
  ·have H:=ifT hc2 H
   refine ro (ro (ro (rp (Pu.pickT rfl rfl) ?_)))
   obtain rfl:=sj H
   exact hJ3 _ _ ⟨rfl,rfl,rfl,trivial⟩ (fun w s=>s)
  ·have H:=ifF hc2 H
   refine rM rfl ?_
   obtain ⟨x48,hx48,H⟩:=bindE H
   refine rq (Qt.call (vs:=[.slice p1 a1_l.length c1]) ent164 rfl fun w s=>build_rising_walk a1_l w ((Rd.base h1) w s) hx48) (rp (Pu.not rfl) (rp (Pu.pickF rfl rfl) ?_))
   obtain rfl:=sj H
   exact hJ3 _ _ ⟨rfl,rfl,rfl,trivial⟩ (fun w s=>s)
theorem throngref5_Ground_walk (a0_g:Grd) (w:World) {v0:Value} (h0:R (hpOf w) a0_g.tiles [v0]) {r:Bool} (H:throngref5_Ground a0_g = some r):Calls Tryz.prog 16 #[.agg #[.int .i64 a0_g.w,.int .i64 a0_g.h,v0]] w fun e w'=>e = .returned (.bool r)∧Ext w w':=by
 have hm0:=R_max h0
 obtain ⟨p0,c0,rfl⟩:=R_form h0
 unfold throngref5_Ground at H
 refine T.enter (args:=[_]) (S:=Sat w []) Tryz.func16 rfl rfl (Sat.start w) ?_
 refine T.seq fun K1 hK1=>T.region (RS.solid (Sd.box (cs:=[_,_,_]) rfl rfl) rfl rfl fun b1=>rA rfl (RS.nil (hK1 _ _ ?_)))
 refine T.seq fun K2 hK2=>T.seq fun K3 hK3=>T.region (rp (Pu.fieldAddr fd24_0 rfl) (rq (Qt.ldB 0 ty3 rfl rfl rfl) (rp (Pu.bin rfl rfl rfl) (rM rfl ?_))))
 refine RS.joinV 4 11 (.bool (decide ((a0_g.w < 1) ∨ (128 < a0_g.w)))) [(1,_)] ⟨rfl,trivial⟩ ?_ ?_
 ·refine rM rfl ?_
  refine RS.joinV 4 16 (.bool (decide (((a0_g.w < 1) ∨ (128 < a0_g.w)) ∨ (a0_g.h < 1)))) [(1,_)] ⟨rfl,trivial⟩ ?_ ?_
  ·refine rM rfl ?_
   refine RS.joinV 4 21 (.bool (decide ((((a0_g.w < 1) ∨ (128 < a0_g.w)) ∨ (a0_g.h < 1)) ∨ (128 < a0_g.h)))) [(1,_)] ⟨rfl,trivial⟩ ?_ ?_
   ·refine rM rfl ?_
    obtain ⟨g10,H⟩:=gdE H
    refine RS.joinV 10 32 (.bool (decide (((((a0_g.w < 1) ∨ (128 < a0_g.w)) ∨ (a0_g.h < 1)) ∨ (128 < a0_g.h)) ∨ (¬ (a0_g.tiles.length:Int) = (a0_g.w * a0_g.h))))) [(1,_)] ⟨rfl,trivial⟩ ?_ ?_
    ·refine RS.nil (hK3 _ _ ?_)
     refine T.condP rfl (fun hc11=>?_) (fun hc11=>?_)
     ·have H:=ifT hc11 H
      refine T.seq fun K4 hK4=>T.region (rA rfl (RS.nil (hK4 _ _ ?_)))
      obtain rfl:=sj H
      refine T.rt (Cont.ret1 rfl rfl fun w' s=>?_)
      exact ⟨rfl,s.ext⟩
     ·have H:=ifF hc11 H
      refine T.skip (hK2 _ _ ?_)
      refine T.seq fun K5 hK5=>T.seq fun K6 hK6=>T.region (rA rfl (RS.nil (hK6 _ _ ?_)))
      refine T.joinE (σ:=Unit) (γ:=Unit) H Ex.go [] trivial (fun _ _=>[]) (fun _ _=>Sat w [blk b1 [.int .i64 a0_g.w,.int .i64 a0_g.h,.slice p0 a0_g.tiles.length c0] 24]) ?_ ?_
      ·rintro ⟨⟩ ⟨⟩ H
       try dsimp only [Ex.then] at H
       refine Cont.conseq (fr':=[]) ?_ trivial (fun _ s=>s)
       refine id (hK5 _ _ ?_)
       refine T.seq fun K7 hK7=>T.region (rA rfl (RS.nil (hK7 _ _ ?_)))
       obtain rfl:=sj H
       refine T.rt (Cont.ret1 rfl rfl fun w' s=>?_)
       exact ⟨rfl,s.ext⟩
      ·intro z12 hz12 HX12 hJ12
       refine T.block ?_
       refine T.loopA (γ:=Unit) hz12 [(1,_)] (fun v13 _=>[(3,.int .i64 v13)]) (fun v13 _=>Sat w [blk b1 [.int .i64 a0_g.w,.int .i64 a0_g.h,.slice p0 a0_g.tiles.length c0] 24]) () ⟨rfl,trivial⟩ ⟨rfl,trivial⟩ (fun w s=>s) ?_
       rintro v13 ⟨⟩ y14 H hd12 KL12 hL12
       try dsimp only [Ex.then] at H
       refine cq [(3,_),(1,_)] ?_
       refine T.seq fun K8 hK8=>T.seq fun K9 hK9=>T.region (rM rfl (rp (Pu.fieldAddr fd24_2 rfl) (rq (Qt.ldB 0 ty22 rfl rfl rfl) (rp (Pu.lenSl sl22 rfl) (rp (Pu.bin rfl rfl rfl) (RS.nil (hK9 _ _ ?_)))))))
       refine T.condP rfl (fun hc15=>?_) (fun hc15=>?_)
       ·have H:=ifT hc15 H
        refine T.skip (hK8 _ _ (cq [(1,_),(3,_)] ?_))
        refine T.seq fun K10 hK10=>T.block (T.seq fun K11 hK11=>T.region (rp (Pu.fieldAddr fd24_2 rfl) (rq (Qt.ldB 0 ty22 rfl rfl rfl) (rM rfl ?_))))
        obtain ⟨g16,H⟩:=gdE H
        obtain ⟨bl17,ol18,rfl⟩:=R_ptr h0 (ne_of_pos (pos_of g16))
        refine rp (Pu.indexSl sl22 rfl rfl g16) (rq (Qt.ld0 (α:=UInt8) (Rd.base h0) ty5 rfl rfl g16 (by rintro _ _ rfl; rfl)) (rp (Pu.bin rfl rfl rfl) (RS.nil (hK11 _ _ ?_))))
        refine T.condP rfl (fun hc19=>?_) (fun hc19=>?_)
        ·have H:=ifT hc19 H
         refine cq [] ?_
         refine T.seq fun K12 hK12=>T.region (rA rfl (RS.nil (hK12 _ _ ?_)))
         obtain rfl:=hd12 _ H
         have H:=HX12
         obtain rfl:=sj H
         refine T.rt (Cont.ret1 rfl rfl fun w' s=>?_)
         exact ⟨rfl,s.ext⟩
        ·have H:=ifF hc19 H
         refine T.skip (hK10 _ _ (cq [(1,_),(3,_)] ?_))
         refine T.region (rM rfl ?_)
         obtain ⟨g20,H⟩:=gdE H
         refine rp (Pu.addS rfl rfl g20) (rA rfl (RS.nil (hL12 _ _ (v13 + 1) () H ⟨rfl,trivial⟩ ⟨rfl,trivial⟩ (fun w s=>s))))
       ·have H:=ifF hc15 H
        obtain rfl:=hd12 _ H
        refine T.xt (hJ12 _ _ () () HX12 trivial trivial (fun w s=>s))
    ·intro hJ9
     refine RS.splitP 22 rfl (fun hc8=>?_) (fun hc8=>?_)
     ·refine ro (ro (ro (ro (ro (ro (ro (ro (ro (rp (Pu.pickT rfl rfl) ?_)))))))))
      exact hJ9 _ _ ⟨dOrT hc8,rfl,trivial⟩ (fun w s=>s)
     ·refine rp (Pu.fieldAddr fd24_2 rfl) (rq (Qt.ldB 0 ty22 rfl rfl rfl) (rp (Pu.lenSl sl22 rfl) (rp (Pu.fieldAddr fd24_0 rfl) (rq (Qt.ldB 0 ty3 rfl rfl rfl) (rp (Pu.fieldAddr fd24_1 rfl) (rq (Qt.ldB 0 ty3 rfl rfl rfl) (rp (Pu.mulS rfl rfl (g10 hc8)) (rp (Pu.bin rfl rfl rfl) (rp (Pu.pickF rfl rfl) ?_)))))))))
      exact hJ9 _ _ ⟨dOrF hc8,rfl,trivial⟩ (fun w s=>s)
   ·intro hJ7
    refine RS.splitP 17 rfl (fun hc6=>?_) (fun hc6=>?_)
    ·refine ro (ro (ro (rp (Pu.pickT rfl rfl) ?_)))
     exact hJ7 _ _ ⟨dOrT hc6,rfl,trivial⟩ (fun w s=>s)
    ·refine rp (Pu.fieldAddr fd24_1 rfl) (rq (Qt.ldB 0 ty3 rfl rfl rfl) (rp (Pu.bin rfl rfl rfl) (rp (Pu.pickF rfl rfl) ?_)))
     exact hJ7 _ _ ⟨dOrF hc6,rfl,trivial⟩ (fun w s=>s)
  ·intro hJ5
   refine RS.splitP 12 rfl (fun hc4=>?_) (fun hc4=>?_)
   ·refine ro (ro (ro (rp (Pu.pickT rfl rfl) ?_)))
    exact hJ5 _ _ ⟨dOrT hc4,rfl,trivial⟩ (fun w s=>s)
   ·refine rp (Pu.fieldAddr fd24_1 rfl) (rq (Qt.ldB 0 ty3 rfl rfl rfl) (rp (Pu.bin rfl rfl rfl) (rp (Pu.pickF rfl rfl) ?_)))
    exact hJ5 _ _ ⟨dOrF hc4,rfl,trivial⟩ (fun w s=>s)
 ·intro hJ3
  refine RS.splitP 7 rfl (fun hc2=>?_) (fun hc2=>?_)
  ·refine ro (ro (ro (rp (Pu.pickT rfl rfl) ?_)))
   exact hJ3 _ _ ⟨dOrT hc2,rfl,trivial⟩ (fun w s=>s)
  ·refine rp (Pu.fieldAddr fd24_0 rfl) (rq (Qt.ldB 0 ty3 rfl rfl rfl) (rp (Pu.bin rfl rfl rfl) (rp (Pu.pickF rfl rfl) ?_)))
   exact hJ3 _ _ ⟨dOrF hc2,rfl,trivial⟩ (fun w s=>s)
end Go.Proofs.YtmngdgclldkcfaaGreat
set_option linter.unusedVariables false
set_option linter.unusedSimpArgs false
set_option maxRecDepth 20000
set_option maxHeartbeats 4000000
namespace Go.Proofs.YtmngdgclldkcfaaGreat
open Go.Vg
open Enc (R)
structure Itm where
 key:Int
 val:Int
 deriving Inhabited,DecidableEq
def Itm.Wf (x:Itm):Prop:=(I64 x.key)∧(I64 x.val)
structure Net where
 g:Grd
 cls:Int
 free:List Bool
 deriving Inhabited
def Net.Wf (x:Net):Prop:=(Grd.Wf x.g)∧(I64 x.cls)∧((∀ y ∈ x.free,True)∧x.free.length ≤ 140737488351232)
end Go.Proofs.YtmngdgclldkcfaaGreat
set_option linter.unusedVariables false
set_option linter.unusedSimpArgs false
set_option maxRecDepth 20000
set_option maxHeartbeats 4000000
namespace Go.Proofs.YtmngdgclldkcfaaGreat
open Go.Vg
open Enc (R)
end Go.Proofs.YtmngdgclldkcfaaGreat
set_option linter.unusedVariables false
set_option linter.unusedSimpArgs false
set_option maxRecDepth 20000
set_option maxHeartbeats 4000000
namespace Go.Proofs.YtmngdgclldkcfaaGreat
open Go.Vg
open Enc (R)
theorem ent57:Ent Tryz.prog 57:=⟨_,_,Tryz.func57,by kernel_rfl,rfl⟩
theorem ty41:tySz Tryz.prog 41 = some (1,false):=by kernel_rfl
end Go.Proofs.YtmngdgclldkcfaaGreat
set_option linter.unusedVariables false
set_option linter.unusedSimpArgs false
set_option maxRecDepth 20000
set_option maxHeartbeats 4000000
namespace Go.Proofs.YtmngdgclldkcfaaGreat
open Go.Vg
open Enc (R)
theorem co2:Tryz.prog.cellsOf 2 = 1:=by kernel_rfl
theorem co33:Tryz.prog.cellsOf 33 = 2:=by kernel_rfl
theorem uf33:structOf Tryz.prog 33 = some [(2,0),(2,1)]:=by kernel_rfl
theorem ul112:Tryz.prog.underlying 112 = some (.int .u64):=by kernel_rfl
theorem ul2:Tryz.prog.underlying 2 = some (.int .i64):=by kernel_rfl
structure Vec where
 x:Int
 y:Int
 deriving Inhabited,DecidableEq
theorem eq_Vec (x y:Vec):(x.x == y.x && (x.y == y.y && (true))) = decide (x = y):=by
 obtain ⟨a0,a1⟩:=x
 obtain ⟨b0,b1⟩:=y
 simp only [Vec.mk.injEq,Bool.and_true,beq_iff_eq,Bool.decide_and]
 simp only [Bool.beq_eq_decide_eq]
instance:Enc Vec where
 sz:=2
 R h x cs:=cs = [.int .i64 x.x,.int .i64 x.y]
 len:=fun e=>by rw [e]; rfl
 one:=fun e u hu=>by
  rw [e] at hu; simp only [List.mem_cons,List.not_mem_nil,or_false] at hu
  rcases hu with rfl | rfl
  ·rfl
  ·rfl
 mono:=fun hl e=>e
def Vec.Wf (x:Vec):Prop:=(I64 x.x)∧(I64 x.y)
theorem rd_Vec:Rdbl Tryz.prog 33 Vec Vec.Wf:=fun H enc w fuel cs x h hzd=>by
 obtain ⟨fs,hu,hfs⟩:=structOf_spec uf33
 obtain ⟨hl,m,hf⟩:=trod_field hu h hzd
 obtain ⟨f0,hf0,ht0,ho0⟩:∃ f,fs[0]? = some f∧f.type = 2∧f.offset = 0:=by
  have h1:(fs.toList.map (fun f=>(f.type,f.offset)))[0]? = some (2,0):=by rw [hfs]; rfl
  rw [List.getElem?_map,Option.map_eq_some_iff] at h1
  obtain ⟨f,h2,h3⟩:=h1
  simp only [Prod.mk.injEq] at h3
  exact ⟨f,by simpa using h2,h3.1,h3.2⟩
 obtain ⟨y0,hy0⟩:=hf 0 f0 hf0
 rw [ht0,ho0,co2] at hy0
 obtain ⟨a0,ha0,hw0⟩:=Rdbl.part (Rdbl.int ul2) hy0
 obtain ⟨f1,hf1,ht1,ho1⟩:∃ f,fs[1]? = some f∧f.type = 2∧f.offset = 1:=by
  have h1:(fs.toList.map (fun f=>(f.type,f.offset)))[1]? = some (2,1):=by rw [hfs]; rfl
  rw [List.getElem?_map,Option.map_eq_some_iff] at h1
  obtain ⟨f,h2,h3⟩:=h1
  simp only [Prod.mk.injEq] at h3
  exact ⟨f,by simpa using h2,h3.1,h3.2⟩
 obtain ⟨y1,hy1⟩:=hf 1 f1 hf1
 rw [ht1,ho1,co2] at hy1
 obtain ⟨a1,ha1,hw1⟩:=Rdbl.part (Rdbl.int ul2) hy1
 rw [co33] at hl
 obtain ⟨x0,x1,rfl⟩:∃ x0 x1,cs = [x0,x1]:=by
  match cs,hl with
  | [x0,x1],_=>exact ⟨x0,x1,rfl⟩
 simp only [List.drop_succ_cons,List.drop_zero,List.take_succ_cons,List.take_zero] at ha0 ha1
 obtain rfl:x0 = _:=by simpa [Enc.R] using ha0
 obtain rfl:x1 = _:=by simpa [Enc.R] using ha1
 exact ⟨⟨a0,a1⟩,rfl,⟨hw0,hw1⟩⟩
structure Knd where
 radius:Int
 speed:Int
 cls:Int
 size:Int
 room:Int
 deriving Inhabited,DecidableEq
def Knd.Wf (x:Knd):Prop:=(I64 x.radius)∧(I64 x.speed)∧(I64 x.cls)∧(I64 x.size)∧(I64 x.room)
structure Unt where
 id:Int
 owner:Int
 kind:Int
 pos:Vec
 goal:Int
 next:Int
 stuck:Int
 inn:Int
 state:Int
 deriving Inhabited,DecidableEq
instance:Enc Unt where
 sz:=10
 R h x cs:=cs = [.int .i64 x.id,.int .i64 x.owner,.int .i64 x.kind,.int .i64 x.pos.x,.int .i64 x.pos.y,.int .i64 x.goal,.int .i64 x.next,.int .i64 x.stuck,.int .i64 x.inn,.int .i64 x.state]
 len:=fun e=>by rw [e]; rfl
 one:=fun e u hu=>by
  rw [e] at hu; simp only [List.mem_cons,List.not_mem_nil,or_false] at hu
  rcases hu with rfl | rfl | rfl | rfl | rfl | rfl | rfl | rfl | rfl | rfl
  ·rfl
  ·rfl
  ·rfl
  ·rfl
  ·rfl
  ·rfl
  ·rfl
  ·rfl
  ·rfl
  ·rfl
 mono:=fun hl e=>e
instance:Flat Unt:=⟨fun h=>h⟩
def Unt.Wf (x:Unt):Prop:=(I64 x.id)∧(I64 x.owner)∧(I64 x.kind)∧(Vec.Wf x.pos)∧(I64 x.goal)∧(I64 x.next)∧(I64 x.stuck)∧(I64 x.inn)∧(I64 x.state)
theorem eq2_Unt (x y:Unt):((x.id == y.id) && ((x.owner == y.owner) && ((x.kind == y.kind) && (((x.pos.x == y.pos.x) && ((x.pos.y == y.pos.y) && true)) && ((x.goal == y.goal) && ((x.next == y.next) && ((x.stuck == y.stuck) && ((x.inn == y.inn) && ((x.state == y.state) && true))))))))) = decide (x = y):=by
 obtain ⟨a1,a2,a3,⟨a4,a5⟩,a6,a7,a8,a9,a10⟩:=x
 obtain ⟨b1,b2,b3,⟨b4,b5⟩,b6,b7,b8,b9,b10⟩:=y
 rw [Bool.eq_iff_iff]
 simp only [Bool.and_eq_true,beq_iff_eq,Unt.mk.injEq,Vec.mk.injEq,decide_eq_true_eq,and_true]
end Go.Proofs.YtmngdgclldkcfaaGreat
set_option linter.unusedVariables false
set_option linter.unusedSimpArgs false
set_option maxRecDepth 20000
set_option maxHeartbeats 4000000
namespace Go.Proofs.YtmngdgclldkcfaaGreat
open Go.Vg
open Enc (R)
theorem bz3:decide (0 < Tryz.prog.bytesOf 3) = true:=by kernel_rfl
theorem bz37:decide (0 < Tryz.prog.bytesOf 37) = true:=by kernel_rfl
theorem co29:Tryz.prog.cellsOf 29 = 1:=by kernel_rfl
theorem co35:Tryz.prog.cellsOf 35 = 1:=by kernel_rfl
theorem co37:Tryz.prog.cellsOf 37 = 10:=by kernel_rfl
theorem uf37:structOf Tryz.prog 37 = some [(3,0),(3,1),(3,2),(3,3),(35,4),(3,5),(3,6),(3,7),(33,8)]:=by kernel_rfl
theorem usl29:Tryz.prog.underlying 29 = some (.slice 37):=by kernel_rfl
theorem usl87:Tryz.prog.underlying 87 = some (.slice 112):=by kernel_rfl
structure Cmd where
 player:Int
 seq:Int
 kind:Int
 n:Int
 units:List Int
 tile:Int
 w:Int
 h:Int
 pos:Vec
 deriving Inhabited,DecidableEq
instance:Enc Cmd where
 sz:=10
 R h x cs:=∃ v4,cs = [.int .i64 x.player,.int .i64 x.seq,.int .i64 x.kind,.int .i64 x.n,v4,.int .i64 x.tile,.int .i64 x.w,.int .i64 x.h,.int .i64 x.pos.x,.int .i64 x.pos.y]∧Enc.R h (x.units:List Int) [v4]
 len:=fun ⟨v4,e,h4⟩=>by rw [e]; rfl
 one:=fun ⟨v4,e,h4⟩ u hu=>by
  rw [e] at hu; simp only [List.mem_cons,List.not_mem_nil,or_false] at hu
  rcases hu with rfl | rfl | rfl | rfl | rfl | rfl | rfl | rfl | rfl | rfl
  ·rfl
  ·rfl
  ·rfl
  ·rfl
  ·exact Enc.one h4 _ (by simp)
  ·rfl
  ·rfl
  ·rfl
  ·rfl
  ·rfl
 mono:=fun hl ⟨v4,e,h4⟩=>⟨v4,e,Enc.mono hl h4⟩
instance:Deep Cmd where
 D h x c:=∃ q0:Option Nat × Nat,c = [.int .i64 x.player,.int .i64 x.seq,.int .i64 x.kind,.int .i64 x.n,rowV q0 x.units.length,.int .i64 x.tile,.int .i64 x.w,.int .i64 x.h,.int .i64 x.pos.x,.int .i64 x.pos.y]∧stars [row nilH 3 (rowV q0 x.units.length) x.units] h
 toR:=fun ⟨q0,e,⟨_,_,a0,_,_,l0,k0⟩⟩=>⟨_,e,Enc.mono l0 (row_R a0)⟩
 mono:=fun hl ⟨q0,e,s⟩=>⟨_,e,stars_mono hl s⟩
def Cmd.Wf (x:Cmd):Prop:=(I64 x.player)∧(I64 x.seq)∧(I64 x.kind)∧(I64 x.n)∧((∀ y ∈ x.units,I64 y)∧x.units.length ≤ 140737488351232)∧(I64 x.tile)∧(I64 x.w)∧(I64 x.h)∧(Vec.Wf x.pos)
theorem rd_Cmd:Rdbl Tryz.prog 37 Cmd Cmd.Wf:=fun H enc w fuel cs x h hzd=>by
 obtain ⟨fs,hu,hfs⟩:=structOf_spec uf37
 obtain ⟨hl,m,hf⟩:=trod_field hu h hzd
 obtain ⟨f0,hf0,ht0,ho0⟩:∃ f,fs[0]? = some f∧f.type = 3∧f.offset = 0:=by
  have h1:(fs.toList.map (fun f=>(f.type,f.offset)))[0]? = some (3,0):=by rw [hfs]; rfl
  rw [List.getElem?_map,Option.map_eq_some_iff] at h1
  obtain ⟨f,h2,h3⟩:=h1
  simp only [Prod.mk.injEq] at h3
  exact ⟨f,by simpa using h2,h3.1,h3.2⟩
 obtain ⟨y0,hy0⟩:=hf 0 f0 hf0
 rw [ht0,ho0,co3] at hy0
 obtain ⟨a0,ha0,hw0⟩:=Rdbl.part (Rdbl.int ul3) hy0
 obtain ⟨f1,hf1,ht1,ho1⟩:∃ f,fs[1]? = some f∧f.type = 3∧f.offset = 1:=by
  have h1:(fs.toList.map (fun f=>(f.type,f.offset)))[1]? = some (3,1):=by rw [hfs]; rfl
  rw [List.getElem?_map,Option.map_eq_some_iff] at h1
  obtain ⟨f,h2,h3⟩:=h1
  simp only [Prod.mk.injEq] at h3
  exact ⟨f,by simpa using h2,h3.1,h3.2⟩
 obtain ⟨y1,hy1⟩:=hf 1 f1 hf1
 rw [ht1,ho1,co3] at hy1
 obtain ⟨a1,ha1,hw1⟩:=Rdbl.part (Rdbl.int ul3) hy1
 obtain ⟨f2,hf2,ht2,ho2⟩:∃ f,fs[2]? = some f∧f.type = 3∧f.offset = 2:=by
  have h1:(fs.toList.map (fun f=>(f.type,f.offset)))[2]? = some (3,2):=by rw [hfs]; rfl
  rw [List.getElem?_map,Option.map_eq_some_iff] at h1
  obtain ⟨f,h2,h3⟩:=h1
  simp only [Prod.mk.injEq] at h3
  exact ⟨f,by simpa using h2,h3.1,h3.2⟩
 obtain ⟨y2,hy2⟩:=hf 2 f2 hf2
 rw [ht2,ho2,co3] at hy2
 obtain ⟨a2,ha2,hw2⟩:=Rdbl.part (Rdbl.int ul3) hy2
 obtain ⟨f3,hf3,ht3,ho3⟩:∃ f,fs[3]? = some f∧f.type = 3∧f.offset = 3:=by
  have h1:(fs.toList.map (fun f=>(f.type,f.offset)))[3]? = some (3,3):=by rw [hfs]; rfl
  rw [List.getElem?_map,Option.map_eq_some_iff] at h1
  obtain ⟨f,h2,h3⟩:=h1
  simp only [Prod.mk.injEq] at h3
  exact ⟨f,by simpa using h2,h3.1,h3.2⟩
 obtain ⟨y3,hy3⟩:=hf 3 f3 hf3
 rw [ht3,ho3,co3] at hy3
 obtain ⟨a3,ha3,hw3⟩:=Rdbl.part (Rdbl.int ul3) hy3
 obtain ⟨f4,hf4,ht4,ho4⟩:∃ f,fs[4]? = some f∧f.type = 35∧f.offset = 4:=by
  have h1:(fs.toList.map (fun f=>(f.type,f.offset)))[4]? = some (35,4):=by rw [hfs]; rfl
  rw [List.getElem?_map,Option.map_eq_some_iff] at h1
  obtain ⟨f,h2,h3⟩:=h1
  simp only [Prod.mk.injEq] at h3
  exact ⟨f,by simpa using h2,h3.1,h3.2⟩
 obtain ⟨y4,hy4⟩:=hf 4 f4 hf4
 rw [ht4,ho4,co35] at hy4
 obtain ⟨a4,ha4,hw4⟩:=Rdbl.part (Rdbl.slice usl35 co3 (by decide) (Rdbl.int ul3) bz3) hy4
 obtain ⟨f5,hf5,ht5,ho5⟩:∃ f,fs[5]? = some f∧f.type = 3∧f.offset = 5:=by
  have h1:(fs.toList.map (fun f=>(f.type,f.offset)))[5]? = some (3,5):=by rw [hfs]; rfl
  rw [List.getElem?_map,Option.map_eq_some_iff] at h1
  obtain ⟨f,h2,h3⟩:=h1
  simp only [Prod.mk.injEq] at h3
  exact ⟨f,by simpa using h2,h3.1,h3.2⟩
 obtain ⟨y5,hy5⟩:=hf 5 f5 hf5
 rw [ht5,ho5,co3] at hy5
 obtain ⟨a5,ha5,hw5⟩:=Rdbl.part (Rdbl.int ul3) hy5
 obtain ⟨f6,hf6,ht6,ho6⟩:∃ f,fs[6]? = some f∧f.type = 3∧f.offset = 6:=by
  have h1:(fs.toList.map (fun f=>(f.type,f.offset)))[6]? = some (3,6):=by rw [hfs]; rfl
  rw [List.getElem?_map,Option.map_eq_some_iff] at h1
  obtain ⟨f,h2,h3⟩:=h1
  simp only [Prod.mk.injEq] at h3
  exact ⟨f,by simpa using h2,h3.1,h3.2⟩
 obtain ⟨y6,hy6⟩:=hf 6 f6 hf6
 rw [ht6,ho6,co3] at hy6
 obtain ⟨a6,ha6,hw6⟩:=Rdbl.part (Rdbl.int ul3) hy6
 obtain ⟨f7,hf7,ht7,ho7⟩:∃ f,fs[7]? = some f∧f.type = 3∧f.offset = 7:=by
  have h1:(fs.toList.map (fun f=>(f.type,f.offset)))[7]? = some (3,7):=by rw [hfs]; rfl
  rw [List.getElem?_map,Option.map_eq_some_iff] at h1
  obtain ⟨f,h2,h3⟩:=h1
  simp only [Prod.mk.injEq] at h3
  exact ⟨f,by simpa using h2,h3.1,h3.2⟩
 obtain ⟨y7,hy7⟩:=hf 7 f7 hf7
 rw [ht7,ho7,co3] at hy7
 obtain ⟨a7,ha7,hw7⟩:=Rdbl.part (Rdbl.int ul3) hy7
 obtain ⟨f8,hf8,ht8,ho8⟩:∃ f,fs[8]? = some f∧f.type = 33∧f.offset = 8:=by
  have h1:(fs.toList.map (fun f=>(f.type,f.offset)))[8]? = some (33,8):=by rw [hfs]; rfl
  rw [List.getElem?_map,Option.map_eq_some_iff] at h1
  obtain ⟨f,h2,h3⟩:=h1
  simp only [Prod.mk.injEq] at h3
  exact ⟨f,by simpa using h2,h3.1,h3.2⟩
 obtain ⟨y8,hy8⟩:=hf 8 f8 hf8
 rw [ht8,ho8,co33] at hy8
 obtain ⟨a8,ha8,hw8⟩:=Rdbl.part rd_Vec hy8
 rw [co37] at hl
 obtain ⟨x0,x1,x2,x3,x4,x5,x6,x7,x8,x9,rfl⟩:∃ x0 x1 x2 x3 x4 x5 x6 x7 x8 x9,cs = [x0,x1,x2,x3,x4,x5,x6,x7,x8,x9]:=by
  match cs,hl with
  | [x0,x1,x2,x3,x4,x5,x6,x7,x8,x9],_=>exact ⟨x0,x1,x2,x3,x4,x5,x6,x7,x8,x9,rfl⟩
 simp only [List.drop_succ_cons,List.drop_zero,List.take_succ_cons,List.take_zero] at ha0 ha1 ha2 ha3 ha4 ha5 ha6 ha7 ha8
 obtain rfl:x0 = _:=by simpa [Enc.R] using ha0
 obtain rfl:x1 = _:=by simpa [Enc.R] using ha1
 obtain rfl:x2 = _:=by simpa [Enc.R] using ha2
 obtain rfl:x3 = _:=by simpa [Enc.R] using ha3
 obtain rfl:x5 = _:=by simpa [Enc.R] using ha5
 obtain rfl:x6 = _:=by simpa [Enc.R] using ha6
 obtain rfl:x7 = _:=by simpa [Enc.R] using ha7
 have e8:=ha8
 simp only [Enc.R,List.cons.injEq,and_true] at e8
 obtain ⟨rfl,rfl⟩:=e8
 exact ⟨⟨a0,a1,a2,a3,a4,a5,a6,a7,a8⟩,⟨_,rfl,ha4⟩,⟨hw0,hw1,hw2,hw3,hw4,hw5,hw6,hw7,hw8⟩⟩
structure Inp where
 turn:Int
 player:Int
 commands:List Cmd
 deriving Inhabited,DecidableEq
instance:Enc Inp where
 sz:=3
 R h x cs:=∃ v2,cs = [.int .i64 x.turn,.int .i64 x.player,v2]∧Enc.R h (x.commands:List Cmd) [v2]
 len:=fun ⟨v2,e,h2⟩=>by rw [e]; rfl
 one:=fun ⟨v2,e,h2⟩ u hu=>by
  rw [e] at hu; simp only [List.mem_cons,List.not_mem_nil,or_false] at hu
  rcases hu with rfl | rfl | rfl
  ·rfl
  ·rfl
  ·exact Enc.one h2 _ (by simp)
 mono:=fun hl ⟨v2,e,h2⟩=>⟨v2,e,Enc.mono hl h2⟩
instance:Deep Inp where
 D h x c:=∃ q0:Option Nat × Nat,c = [.int .i64 x.turn,.int .i64 x.player,rowV q0 x.commands.length]∧stars [drow 37 (rowV q0 x.commands.length) x.commands] h
 toR:=fun ⟨q0,e,⟨_,_,a0,_,_,l0,k0⟩⟩=>⟨_,e,Enc.mono l0 (drow_R a0)⟩
 mono:=fun hl ⟨q0,e,s⟩=>⟨_,e,stars_mono hl s⟩
def Inp.Wf (x:Inp):Prop:=(I64 x.turn)∧(I64 x.player)∧((∀ y ∈ x.commands,Cmd.Wf y)∧x.commands.length ≤ 140737488351232)
structure Nte where
 frm:Int
 dst:Int
 input:Inp
 don:Int
 hash:UInt64
 hav:Int
 deriving Inhabited,DecidableEq
instance:Enc Nte where
 sz:=8
 R h x cs:=∃ v4,cs = [.int .i64 x.frm,.int .i64 x.dst,.int .i64 x.input.turn,.int .i64 x.input.player,v4,.int .i64 x.don,.int .u64 x.hash.toNat,.int .i64 x.hav]∧Enc.R h (x.input.commands:List Cmd) [v4]
 len:=fun ⟨v4,e,h4⟩=>by rw [e]; rfl
 one:=fun ⟨v4,e,h4⟩ u hu=>by
  rw [e] at hu; simp only [List.mem_cons,List.not_mem_nil,or_false] at hu
  rcases hu with rfl | rfl | rfl | rfl | rfl | rfl | rfl | rfl
  ·rfl
  ·rfl
  ·rfl
  ·rfl
  ·exact Enc.one h4 _ (by simp)
  ·rfl
  ·rfl
  ·rfl
 mono:=fun hl ⟨v4,e,h4⟩=>⟨v4,e,Enc.mono hl h4⟩
instance:Deep Nte where
 D h x c:=∃ q0:Option Nat × Nat,c = [.int .i64 x.frm,.int .i64 x.dst,.int .i64 x.input.turn,.int .i64 x.input.player,rowV q0 x.input.commands.length,.int .i64 x.don,.int .u64 x.hash.toNat,.int .i64 x.hav]∧stars [drow 37 (rowV q0 x.input.commands.length) x.input.commands] h
 toR:=fun ⟨q0,e,⟨_,_,a0,_,_,l0,k0⟩⟩=>⟨_,e,Enc.mono l0 (drow_R a0)⟩
 mono:=fun hl ⟨q0,e,s⟩=>⟨_,e,stars_mono hl s⟩
def Nte.Wf (x:Nte):Prop:=(I64 x.frm)∧(I64 x.dst)∧(Inp.Wf x.input)∧(I64 x.don)∧(I64 x.hav)
structure Per where
 id:Int
 players:Int
 delay:Int
 turn:Int
 said:Int
 mine:List Inp
 inputs:List Inp
 has:List Int
 acked:List Int
 hashes:List UInt64
 split:Bool
 deriving Inhabited,DecidableEq
def Per.Wf (x:Per):Prop:=(I64 x.id)∧(I64 x.players)∧(I64 x.delay)∧(I64 x.turn)∧(I64 x.said)∧((∀ y ∈ x.mine,Inp.Wf y)∧x.mine.length ≤ 140737488351232)∧((∀ y ∈ x.inputs,Inp.Wf y)∧x.inputs.length ≤ 140737488351232)∧((∀ y ∈ x.has,I64 y)∧x.has.length ≤ 140737488351232)∧((∀ y ∈ x.acked,I64 y)∧x.acked.length ≤ 140737488351232)∧((∀ y ∈ x.hashes,True)∧x.hashes.length ≤ 140737488351232)
end Go.Proofs.YtmngdgclldkcfaaGreat
set_option linter.unusedVariables false
set_option linter.unusedSimpArgs false
set_option maxRecDepth 20000
set_option maxHeartbeats 4000000
namespace Go.Proofs.YtmngdgclldkcfaaGreat
open Go.Vg
open Enc (R)
theorem zr5:zeroOf Tryz.prog 5 = some (.int .u8 0):=by kernel_rfl
theorem cloneByte_calls_nil {l:List UInt8} {n c:Nat} (w:World) (hA:R (hpOf w) l [.slice none n c]):Calls Tryz.prog 65 #[.slice none n c] w fun e w'=>∃ q:Option Nat × Nat,e = .returned (rowV q l.length)∧Sat w [row nilH 5 (rowV q l.length) l] w':=by
 refine T.enter (args:=[.slice none n c]) (S:=Sat w []) Tryz.func65 rfl rfl (Sat.start w) ?_
 refine T.seq fun K1 hK1=>?_
 refine T.region ?_
 refine RS.p (Pu.assign rfl) rfl rfl ?_
 refine RS.nil (hK1 _ _ ?_)
 refine T.seq fun K2 hK2=>?_
 refine T.seq fun K3 hK3=>?_
 refine T.region ?_
 refine RS.p (Pu.move rfl) rfl rfl ?_
 refine RS.p (Pu.eqNilSl usl22 rfl) rfl rfl ?_
 refine RS.nil (hK3 _ _ ?_)
 refine T.cond rfl (fun hc4=>?_) (fun hc4=>?_)
 ·refine T.conseq (fr':=[]) ?_ trivial (fun _ s=>s)
  refine T.seq fun K4 hK4=>?_
  refine T.region ?_
  refine RS.p (Pu.assign rfl) rfl rfl ?_
  refine RS.nil (hK4 _ _ ?_)
  refine T.retTo (by with_reducible ((repeat (first | apply RetTo.seq | apply RetTo.blk)); exact RetTo.refl _)) (Cont.ret1 rfl rfl fun w' s=>?_)
  have hl0:l = []:=by
   obtain ⟨p',c',e',s1,s2,s3⟩:=hA
   simp only [List.cons.injEq,Value.slice.injEq,and_true] at e'
   obtain ⟨rfl,rfl,rfl⟩:=e'
   rcases s3 with h | ⟨b,o,cs,h,_⟩
   ·exact h
   ·cases h
  subst hl0
  exact ⟨(none,0),rfl,s.addEmpty _ (fun p=>.inl ⟨rfl,rfl⟩)⟩
 ·exact absurd hc4 (by simp) -- end
theorem cloneByte_calls_some {l:List UInt8} {a:Addr} {n c:Nat} (hsz:n < 1099511627776) (w:World) (hA:R (hpOf w) l [.slice (some a) n c]):Calls Tryz.prog 65 #[.slice (some a) n c] w fun e w'=>∃ q:Option Nat × Nat,e = .returned (rowV q l.length)∧Sat w [row nilH 5 (rowV q l.length) l] w':=by
 refine T.enter (args:=[.slice (some a) n c]) (S:=Sat w []) Tryz.func65 rfl rfl (Sat.start w) ?_
 refine T.seq fun K1 hK1=>?_
 refine T.region ?_
 refine RS.p (Pu.assign rfl) rfl rfl ?_
 refine RS.nil (hK1 _ _ ?_)
 refine T.seq fun K2 hK2=>?_
 refine T.seq fun K3 hK3=>?_
 refine T.region ?_
 refine RS.p (Pu.move rfl) rfl rfl ?_
 refine RS.p (Pu.eqNilSl usl22 rfl) rfl rfl ?_
 refine RS.nil (hK3 _ _ ?_)
 refine T.cond rfl (fun hc4=>?_) (fun hc4=>?_)
 ·exact absurd hc4 (by simp) -- end
 ·refine T.skip (hK2 _ _ (T.conseq (fr':=[(0,_)]) ?_ ⟨rfl,trivial⟩ (fun _ s=>s)))
  refine T.seq fun K4 hK4=>?_
  refine T.region ?_
  refine RS.solid (Sd.lit0 (α:=UInt8) (B:=nilH) sl22) rfl rfl fun b5=>?_
  refine RS.p (Pu.move rfl) rfl rfl ?_
  refine RS.solid (Sd.appB (α:=UInt8) 0 (nilH_lt _) rfl sl22 zr5 rfl rfl rfl hA (by simp only [List.length_nil]; omega) (by simp only [List.length_nil]; unfold maxLen; omega)) rfl rfl fun q7=>?_
  refine RS.p (Pu.assign rfl) rfl rfl ?_
  refine RS.nil (hK4 _ _ (T.conseq (fr':=[(2,_)]) ?_ ⟨rfl,trivial⟩ (fun _ s=>s)))
  refine T.retTo (by with_reducible ((repeat (first | apply RetTo.seq | apply RetTo.blk)); exact RetTo.refl _)) (Cont.ret1 rfl rfl fun w' s=>?_)
  have hn:n = l.length:=(R_len hA).1
  simp only [List.length_nil,Nat.zero_add,List.nil_append] at s
  subst hn
  exact ⟨q7,by simp,s.pick (G':=[_]) [0] (by decide) rfl⟩
theorem cloneByte_calls {l:List UInt8} {v:Value} (hsz:l.length < 1099511627776) (w:World) (hA:R (hpOf w) l [v]):Calls Tryz.prog 65 #[v] w fun e w'=>∃ q:Option Nat × Nat,e = .returned (rowV q l.length)∧Sat w [row nilH 5 (rowV q l.length) l] w':=by
 obtain ⟨p,c,rfl⟩:=R_form hA
 cases p with
 | none=>exact cloneByte_calls_nil w hA
 | some a=>exact cloneByte_calls_some hsz w hA
def slices_Clone_Byte (l:List UInt8):Option (List UInt8):=if l.length < 1099511627776 then some l else none
theorem slices_Clone_Byte_walk (l:List UInt8) (w:World) {v0:Value} (h0:R (hpOf w) l [v0]) {r:List UInt8} (H:slices_Clone_Byte l = some r):Calls Tryz.prog 65 #[v0] w fun e w'=>∃ g:(Option Nat × Nat),e = .returned (rowV g r.length)∧Sat w [row nilH 5 (rowV g r.length) r] w':=by
 unfold slices_Clone_Byte at H
 obtain ⟨h1,H⟩:=gdE H
 obtain rfl:=Option.some.inj H
 exact cloneByte_calls h1 w h0
end Go.Proofs.YtmngdgclldkcfaaGreat
set_option linter.unusedVariables false
set_option linter.unusedSimpArgs false
set_option maxRecDepth 20000
set_option maxHeartbeats 4000000
namespace Go.Proofs.YtmngdgclldkcfaaGreat
open Go.Vg
open Enc (R)
theorem ent184:Ent Tryz.prog 184:=⟨_,_,Tryz.func184,by kernel_rfl,rfl⟩
theorem eqt33:eqTy Tryz.prog 33 = some [0,1]:=by kernel_rfl
theorem fd33_0:fdOff Tryz.prog 33 0 = some 0:=by kernel_rfl
theorem fd33_1:fdOff Tryz.prog 33 1 = some 1:=by kernel_rfl
theorem fd54_4:fdOff Tryz.prog 54 4 = some 5:=by kernel_rfl
theorem fd54_5:fdOff Tryz.prog 54 5 = some 6:=by kernel_rfl
theorem fd54_6:fdOff Tryz.prog 54 6 = some 7:=by kernel_rfl
theorem fd54_8:fdOff Tryz.prog 54 8 = some 9:=by kernel_rfl
theorem ty112:tySz Tryz.prog 112 = some (1,false):=by kernel_rfl
theorem ty2:tySz Tryz.prog 2 = some (1,false):=by kernel_rfl
theorem ty33:tySz Tryz.prog 33 = some (2,true):=by kernel_rfl
theorem ty54:tySz Tryz.prog 54 = some (10,true):=by kernel_rfl
theorem us112:(Tryz.prog.underlying 112).isSome = true:=by kernel_rfl
theorem zr54:zeroOf Tryz.prog 54 = some (.agg #[.int .i64 0,.int .i64 0,.int .i64 0,.int .i64 0,.int .i64 0,.int .i64 0,.int .i64 0,.int .i64 0,.int .i64 0,.int .i64 0]):=by kernel_rfl
def kind_May (a0_k:Int):Option Bool :=
  some (decide ((0 ≤ a0_k)∧(a0_k < 4)))
def disc_Place (a0_p:Vec):Option Bool :=
  some (decide (((((-1099511627776) ≤ a0_p.x)∧(a0_p.x ≤ 1099511627776))∧((-1099511627776) ≤ a0_p.y))∧(a0_p.y ≤ 1099511627776)))
def command_units (a0_l:List Int):Option Bool :=
  Option.bind (α:=Ex (Unit) (Bool)) (loop (σ:=Int) (β:=Ex (Unit) (Bool)) (fun v4 =>
  if v4 < (a0_l.length:Int) then
  if 0 ≤ v4∧v4 < (a0_l.length:Int) then
  if ¬ (((gi a0_l v4) < 1) ∨ (1099511627776 < (gi a0_l v4)))→((0 < v4)→(I64 (v4 - 1))) then
  if ¬ (((gi a0_l v4) < 1) ∨ (1099511627776 < (gi a0_l v4)))→((0 < v4)→(0 ≤ (v4 - 1)∧(v4 - 1) < (a0_l.length:Int))) then
  if (((gi a0_l v4) < 1) ∨ (1099511627776 < (gi a0_l v4))) ∨ ((0 < v4)∧((gi a0_l v4) ≤ (gi a0_l (v4 - 1)))) then
  some (St.done (Ex.up false))
  else
  if I64 (v4 + 1) then
  some (St.next (v4 + 1))
  else none
  else none
  else none
  else none
  else
  some (St.done (Ex.go ()))) 0) fun x=>x.then fun _ =>
  some (decide ((1 ≤ (a0_l.length:Int))∧((a0_l.length:Int) ≤ 64)))
def command_within (a0_n:Int) (a1_least:Int) (a2_most:Int):Option Bool :=
  some (decide ((a1_least ≤ a0_n)∧(a0_n ≤ a2_most)))
end Go.Proofs.YtmngdgclldkcfaaGreat
set_option linter.unusedVariables false
set_option linter.unusedSimpArgs false
set_option maxRecDepth 20000
set_option maxHeartbeats 4000000
namespace Go.Proofs.YtmngdgclldkcfaaGreat
open Go.Vg
open Enc (R)
theorem sl50:slTy Tryz.prog 50 = some (54,10,80):=by kernel_rfl
theorem usl50:Tryz.prog.underlying 50 = some (.slice 54):=by kernel_rfl
theorem cloneUnt_calls_nil {l:List Unt} {n c:Nat} (w:World) (hA:R (hpOf w) l [.slice none n c]):Calls Tryz.prog 75 #[.slice none n c] w fun e w'=>∃ q:Option Nat × Nat,e = .returned (rowV q l.length)∧Sat w [row nilH 54 (rowV q l.length) l] w':=by
 refine T.enter (args:=[.slice none n c]) (S:=Sat w []) Tryz.func75 rfl rfl (Sat.start w) ?_
 refine T.seq fun K1 hK1=>?_
 refine T.region ?_
 refine RS.p (Pu.assign rfl) rfl rfl ?_
 refine RS.nil (hK1 _ _ ?_)
 refine T.seq fun K2 hK2=>?_
 refine T.seq fun K3 hK3=>?_
 refine T.region ?_
 refine RS.p (Pu.move rfl) rfl rfl ?_
 refine RS.p (Pu.eqNilSl usl50 rfl) rfl rfl ?_
 refine RS.nil (hK3 _ _ ?_)
 refine T.cond rfl (fun hc4=>?_) (fun hc4=>?_)
 ·refine T.conseq (fr':=[]) ?_ trivial (fun _ s=>s)
  refine T.seq fun K4 hK4=>?_
  refine T.region ?_
  refine RS.p (Pu.assign rfl) rfl rfl ?_
  refine RS.nil (hK4 _ _ ?_)
  refine T.retTo (by with_reducible ((repeat (first | apply RetTo.seq | apply RetTo.blk)); exact RetTo.refl _)) (Cont.ret1 rfl rfl fun w' s=>?_)
  have hl0:l = []:=by
   obtain ⟨p',c',e',s1,s2,s3⟩:=hA
   simp only [List.cons.injEq,Value.slice.injEq,and_true] at e'
   obtain ⟨rfl,rfl,rfl⟩:=e'
   rcases s3 with h | ⟨b,o,cs,h,_⟩
   ·exact h
   ·cases h
  subst hl0
  exact ⟨(none,0),rfl,s.addEmpty _ (fun p=>.inl ⟨rfl,rfl⟩)⟩
 ·exact absurd hc4 (by simp) -- end
theorem cloneUnt_calls_some {l:List Unt} {a:Addr} {n c:Nat} (hsz:n < 1099511627776) (w:World) (hA:R (hpOf w) l [.slice (some a) n c]):Calls Tryz.prog 75 #[.slice (some a) n c] w fun e w'=>∃ q:Option Nat × Nat,e = .returned (rowV q l.length)∧Sat w [row nilH 54 (rowV q l.length) l] w':=by
 refine T.enter (args:=[.slice (some a) n c]) (S:=Sat w []) Tryz.func75 rfl rfl (Sat.start w) ?_
 refine T.seq fun K1 hK1=>?_
 refine T.region ?_
 refine RS.p (Pu.assign rfl) rfl rfl ?_
 refine RS.nil (hK1 _ _ ?_)
 refine T.seq fun K2 hK2=>?_
 refine T.seq fun K3 hK3=>?_
 refine T.region ?_
 refine RS.p (Pu.move rfl) rfl rfl ?_
 refine RS.p (Pu.eqNilSl usl50 rfl) rfl rfl ?_
 refine RS.nil (hK3 _ _ ?_)
 refine T.cond rfl (fun hc4=>?_) (fun hc4=>?_)
 ·exact absurd hc4 (by simp) -- end
 ·refine T.skip (hK2 _ _ (T.conseq (fr':=[(0,_)]) ?_ ⟨rfl,trivial⟩ (fun _ s=>s)))
  refine T.seq fun K4 hK4=>?_
  refine T.region ?_
  refine RS.solid (Sd.lit0 (α:=Unt) (B:=nilH) sl50) rfl rfl fun b5=>?_
  refine RS.p (Pu.move rfl) rfl rfl ?_
  refine RS.solid (Sd.appB (α:=Unt) 0 (nilH_lt _) rfl sl50 zr54 rfl rfl rfl hA (by simp only [List.length_nil]; omega) (by simp only [List.length_nil]; unfold maxLen; omega)) rfl rfl fun q7=>?_
  refine RS.p (Pu.assign rfl) rfl rfl ?_
  refine RS.nil (hK4 _ _ (T.conseq (fr':=[(2,_)]) ?_ ⟨rfl,trivial⟩ (fun _ s=>s)))
  refine T.retTo (by with_reducible ((repeat (first | apply RetTo.seq | apply RetTo.blk)); exact RetTo.refl _)) (Cont.ret1 rfl rfl fun w' s=>?_)
  have hn:n = l.length:=(R_len hA).1
  simp only [List.length_nil,Nat.zero_add,List.nil_append] at s
  subst hn
  exact ⟨q7,by simp,s.pick (G':=[_]) [0] (by decide) rfl⟩
theorem cloneUnt_calls {l:List Unt} {v:Value} (hsz:l.length < 1099511627776) (w:World) (hA:R (hpOf w) l [v]):Calls Tryz.prog 75 #[v] w fun e w'=>∃ q:Option Nat × Nat,e = .returned (rowV q l.length)∧Sat w [row nilH 54 (rowV q l.length) l] w':=by
 obtain ⟨p,c,rfl⟩:=R_form hA
 cases p with
 | none=>exact cloneUnt_calls_nil w hA
 | some a=>exact cloneUnt_calls_some hsz w hA
def slices_Clone_Unt (l:List Unt):Option (List Unt):=if l.length < 1099511627776 then some l else none
theorem slices_Clone_Unt_walk (l:List Unt) (w:World) {v0:Value} (h0:R (hpOf w) l [v0]) {r:List Unt} (H:slices_Clone_Unt l = some r):Calls Tryz.prog 75 #[v0] w fun e w'=>∃ g:(Option Nat × Nat),e = .returned (rowV g r.length)∧Sat w [row nilH 54 (rowV g r.length) r] w':=by
 unfold slices_Clone_Unt at H
 obtain ⟨h1,H⟩:=gdE H
 obtain rfl:=Option.some.inj H
 exact cloneUnt_calls h1 w h0
end Go.Proofs.YtmngdgclldkcfaaGreat
set_option linter.unusedVariables false
set_option linter.unusedSimpArgs false
set_option maxRecDepth 20000
set_option maxHeartbeats 4000000
namespace Go.Proofs.YtmngdgclldkcfaaGreat
open Go.Vg
open Enc (R)
end Go.Proofs.YtmngdgclldkcfaaGreat
set_option linter.unusedVariables false
set_option linter.unusedSimpArgs false
set_option maxRecDepth 20000
set_option maxHeartbeats 4000000
namespace Go.Proofs.YtmngdgclldkcfaaGreat
open Go.Vg
open Enc (R)
theorem kind_May_walk (a0_k:Int) (w:World) {r:Bool} (H:kind_May a0_k = some r):Calls Tryz.prog 114 #[.int .i64 a0_k] w fun e w'=>e = .returned (.bool r)∧Ext w w':=by
 unfold kind_May at H
 refine T.enter (args:=[_]) (S:=Sat w []) Tryz.func114 rfl rfl (Sat.start w) ?_
 refine T.seq fun K1 hK1=>T.region (rA rfl (RS.nil (hK1 _ _ ?_)))
 refine T.seq fun K2 hK2=>T.region (rM rfl (rp (Pu.bin rfl rfl rfl) (rM rfl ?_)))
 refine RS.joinV 3 8 (.bool (decide ((0 ≤ a0_k)∧(a0_k < 4)))) [(2,_)] ⟨rfl,trivial⟩ ?_ ?_
 ·refine rA rfl (RS.nil (hK2 _ _ ?_))
  obtain rfl:=sj H
  refine T.rt (Cont.ret1 rfl rfl fun w' s=>?_)
  exact ⟨rfl,s.ext⟩
 ·intro hJ2
  refine RS.splitP 5 rfl (fun hc1=>?_) (fun hc1=>?_)
  ·refine rM rfl (rp (Pu.bin rfl rfl rfl) (rp (Pu.pickT rfl rfl) ?_))
   exact hJ2 _ _ ⟨dAndT hc1,rfl,trivial⟩ (fun w s=>s)
  ·refine ro (ro (rp (Pu.pickF rfl rfl) ?_))
   exact hJ2 _ _ ⟨dAndF hc1,rfl,trivial⟩ (fun w s=>s)
theorem disc_Place_walk (a0_p:Vec) (w:World) {r:Bool} (H:disc_Place a0_p = some r):Calls Tryz.prog 184 #[.agg #[.int .i64 a0_p.x,.int .i64 a0_p.y]] w fun e w'=>e = .returned (.bool r)∧Ext w w':=by
 unfold disc_Place at H
 refine T.enter (args:=[_]) (S:=Sat w []) Tryz.func184 rfl rfl (Sat.start w) ?_
 refine T.seq fun K1 hK1=>T.region (RS.solid (Sd.box (cs:=[_,_]) rfl rfl) rfl rfl fun b1=>rA rfl (RS.nil (hK1 _ _ ?_)))
 refine T.seq fun K2 hK2=>T.region (rp (Pu.fieldAddr fd33_0 rfl) (rq (Qt.ldB 0 ty2 rfl rfl rfl) (rp (Pu.bin rfl rfl rfl) (rM rfl ?_))))
 refine RS.joinV 4 10 (.bool (decide (((-1099511627776) ≤ a0_p.x)∧(a0_p.x ≤ 1099511627776)))) [(1,_),(2,_)] ⟨rfl,rfl,trivial⟩ ?_ ?_
 ·refine rM rfl ?_
  refine RS.joinV 4 15 (.bool (decide ((((-1099511627776) ≤ a0_p.x)∧(a0_p.x ≤ 1099511627776))∧((-1099511627776) ≤ a0_p.y)))) [(1,_),(2,_)] ⟨rfl,rfl,trivial⟩ ?_ ?_
  ·refine rM rfl ?_
   refine RS.joinV 4 20 (.bool (decide (((((-1099511627776) ≤ a0_p.x)∧(a0_p.x ≤ 1099511627776))∧((-1099511627776) ≤ a0_p.y))∧(a0_p.y ≤ 1099511627776)))) [(2,_)] ⟨rfl,trivial⟩ ?_ ?_
   ·refine rA rfl (RS.nil (hK2 _ _ ?_))
    obtain rfl:=sj H
    refine T.rt (Cont.ret1 rfl rfl fun w' s=>?_)
    exact ⟨rfl,s.ext⟩
   ·intro hJ7
    refine RS.splitP 16 rfl (fun hc6=>?_) (fun hc6=>?_)
    ·refine rp (Pu.fieldAddr fd33_1 rfl) (rq (Qt.ldB 0 ty2 rfl rfl rfl) (rp (Pu.bin rfl rfl rfl) (rp (Pu.pickT rfl rfl) ?_)))
     exact hJ7 _ _ ⟨dAndT hc6,rfl,trivial⟩ (fun w s=>s)
    ·refine ro (ro (ro (rp (Pu.pickF rfl rfl) ?_)))
     exact hJ7 _ _ ⟨dAndF hc6,rfl,trivial⟩ (fun w s=>s)
  ·intro hJ5
   refine RS.splitP 11 rfl (fun hc4=>?_) (fun hc4=>?_)
   ·refine rp (Pu.fieldAddr fd33_1 rfl) (rq (Qt.ldB 0 ty2 rfl rfl rfl) (rp (Pu.bin rfl rfl rfl) (rp (Pu.pickT rfl rfl) ?_)))
    exact hJ5 _ _ ⟨dAndT hc4,rfl,rfl,trivial⟩ (fun w s=>s)
   ·refine ro (ro (ro (rp (Pu.pickF rfl rfl) ?_)))
    exact hJ5 _ _ ⟨dAndF hc4,rfl,rfl,trivial⟩ (fun w s=>s)
 ·intro hJ3
  refine RS.splitP 6 rfl (fun hc2=>?_) (fun hc2=>?_)
  ·refine rp (Pu.fieldAddr fd33_0 rfl) (rq (Qt.ldB 0 ty2 rfl rfl rfl) (rp (Pu.bin rfl rfl rfl) (rp (Pu.pickT rfl rfl) ?_)))
   exact hJ3 _ _ ⟨dAndT hc2,rfl,rfl,trivial⟩ (fun w s=>s)
  ·refine ro (ro (ro (rp (Pu.pickF rfl rfl) ?_)))
   exact hJ3 _ _ ⟨dAndF hc2,rfl,rfl,trivial⟩ (fun w s=>s)
theorem command_units_walk (a0_l:List Int) (w:World) {v0:Value} (h0:R (hpOf w) a0_l [v0]) {r:Bool} (H:command_units a0_l = some r):Calls Tryz.prog 185 #[v0] w fun e w'=>e = .returned (.bool r)∧Ext w w':=by
 have hm0:=R_max h0
 obtain ⟨p0,c0,rfl⟩:=R_form h0
 unfold command_units at H
 refine T.enter (args:=[_]) (S:=Sat w []) Tryz.func185 rfl rfl (Sat.start w) ?_
 refine T.seq fun K1 hK1=>T.region (rA rfl (RS.nil (hK1 _ _ ?_)))
 refine T.seq fun K2 hK2=>T.seq fun K3 hK3=>T.region (rM rfl (rp (Pu.lenSl sl35 rfl) (rM rfl (RS.nil (hK3 _ _ ?_)))))
 refine T.joinE (σ:=Unit) (γ:=Unit) H Ex.go [(0,_)] ⟨rfl,trivial⟩ (fun _ _=>[]) (fun _ _=>Sat w []) ?_ ?_
 ·rintro ⟨⟩ ⟨⟩ H
  try dsimp only [Ex.then] at H
  refine Cont.conseq (fr':=[(0,_)]) ?_ ⟨rfl,trivial⟩ (fun _ s=>s)
  refine id (hK2 _ _ ?_)
  refine T.seq fun K4 hK4=>T.region (rM rfl (rp (Pu.lenSl sl35 rfl) (rp (Pu.bin rfl rfl rfl) (rM rfl ?_))))
  refine RS.joinV 4 39 (.bool (decide ((1 ≤ (a0_l.length:Int))∧((a0_l.length:Int) ≤ 64)))) [] trivial ?_ ?_
  ·refine rA rfl (RS.nil (hK4 _ _ ?_))
   obtain rfl:=sj H
   refine T.rt (Cont.ret1 rfl rfl fun w' s=>?_)
   exact ⟨rfl,s.ext⟩
  ·intro hJ3
   refine RS.splitP 35 rfl (fun hc2=>?_) (fun hc2=>?_)
   ·refine rM rfl (rp (Pu.lenSl sl35 rfl) (rp (Pu.bin rfl rfl rfl) (rp (Pu.pickT rfl rfl) ?_)))
    exact hJ3 _ _ ⟨dAndT hc2,trivial⟩ (fun w s=>s)
   ·refine ro (ro (ro (rp (Pu.pickF rfl rfl) ?_)))
    exact hJ3 _ _ ⟨dAndF hc2,trivial⟩ (fun w s=>s)
 ·intro z1 hz1 HX1 hJ1
  refine T.block ?_
  refine T.loopA (γ:=Unit) hz1 [(0,_),(5,_),(6,_)] (fun v4 _=>[(7,.int .i64 v4)]) (fun v4 _=>Sat w []) () ⟨rfl,rfl,rfl,trivial⟩ ⟨rfl,trivial⟩ (fun w s=>s) ?_
  rintro v4 ⟨⟩ y5 H hd1 KL1 hL1
  try dsimp only [Ex.then] at H
  refine cq [(7,_),(0,_),(5,_),(6,_)] ?_
  refine T.seq fun K5 hK5=>T.region (rp (Pu.bin rfl rfl rfl) (RS.nil (hK5 _ _ ?_)))
  refine T.seq fun K6 hK6=>?_
  refine T.condP rfl (fun hc6=>?_) (fun hc6=>?_)
  ·have H:=ifT hc6 H
   refine T.skip (hK6 _ _ ?_)
   refine T.seq fun K7 hK7=>T.block (T.seq fun K8 hK8=>T.region (rM rfl ?_))
   obtain ⟨g7,H⟩:=gdE H
   obtain ⟨bl8,ol9,rfl⟩:=R_ptr h0 (ne_of_pos (pos_of g7))
   refine rp (Pu.indexSl sl35 rfl rfl g7) (rq (Qt.ld0 (α:=Int) (Rd.base h0) ty3 rfl rfl g7 (by rintro _ _ rfl; rfl)) (rA rfl (rA rfl (RS.nil (hK8 _ _ (cq [(0,_),(3,_),(4,_),(5,_),(6,_),(7,_)] ?_))))))
   refine T.seq fun K9 hK9=>T.region (rM rfl (rp (Pu.bin rfl rfl rfl) (rM rfl ?_)))
   refine RS.joinV 3 17 (.bool (decide (((gi a0_l v4) < 1) ∨ (1099511627776 < (gi a0_l v4))))) [(0,_),(3,_),(4,_),(5,_),(6,_),(7,_)] ⟨rfl,rfl,rfl,rfl,rfl,rfl,trivial⟩ ?_ ?_
   ·refine rM rfl ?_
    obtain ⟨g14,H⟩:=gdE H
    obtain ⟨g15,H⟩:=gdE H
    refine RS.joinV 12 30 (.bool (decide ((((gi a0_l v4) < 1) ∨ (1099511627776 < (gi a0_l v4))) ∨ ((0 < v4)∧((gi a0_l v4) ≤ (gi a0_l (v4 - 1))))))) [(0,_),(5,_),(6,_),(7,_)] ⟨rfl,rfl,rfl,rfl,trivial⟩ ?_ ?_
    ·refine RS.nil (hK9 _ _ ?_)
     refine T.condP rfl (fun hc16=>?_) (fun hc16=>?_)
     ·have H:=ifT hc16 H
      refine cq [] ?_
      refine T.seq fun K10 hK10=>T.region (rA rfl (RS.nil (hK10 _ _ ?_)))
      obtain rfl:=hd1 _ H
      have H:=HX1
      obtain rfl:=sj H
      refine T.rt (Cont.ret1 rfl rfl fun w' s=>?_)
      exact ⟨rfl,s.ext⟩
     ·have H:=ifF hc16 H
      refine T.skip (hK7 _ _ ?_)
      refine T.region ?_
      obtain ⟨g17,H⟩:=gdE H
      refine rp (Pu.addS rfl rfl g17) (rM rfl (RS.nil (hL1 _ _ (v4 + 1) () H ⟨rfl,rfl,rfl,trivial⟩ ⟨rfl,trivial⟩ (fun w s=>s))))
    ·intro hJ13
     refine RS.splitP 18 rfl (fun hc12=>?_) (fun hc12=>?_)
     ·refine ro (ro (ro (ro (ro (ro (ro (ro (ro (ro (ro (rp (Pu.pickT rfl rfl) ?_)))))))))))
      exact hJ13 _ _ ⟨dOrT hc12,rfl,rfl,rfl,rfl,trivial⟩ (fun w s=>s)
     ·refine rM rfl (rp (Pu.bin rfl rfl rfl) (rM rfl ?_))
      refine RS.joinV 8 29 (.bool (decide ((0 < v4)∧((gi a0_l v4) ≤ (gi a0_l (v4 - 1)))))) [(0,_),(3,_),(4,_),(5,_),(6,_),(7,_),(17,_),(18,_),(19,_),(20,_)] ⟨rfl,rfl,rfl,rfl,rfl,rfl,rfl,rfl,rfl,rfl,trivial⟩ ?_ ?_
      ·refine rp (Pu.pickF rfl rfl) ?_
       exact hJ13 _ _ ⟨dOrF hc12,rfl,rfl,rfl,rfl,trivial⟩ (fun w s=>s)
      ·intro hJ19
       refine RS.splitP 21 rfl (fun hc18=>?_) (fun hc18=>?_)
       ·refine rM rfl (rM rfl (rp (Pu.subS rfl rfl ((g14 hc12) hc18)) (rp (Pu.indexSl sl35 rfl rfl ((g15 hc12) hc18)) (rq (Qt.ld0 (α:=Int) (Rd.base h0) ty3 rfl rfl ((g15 hc12) hc18) (by rintro _ _ rfl; rfl)) (rM rfl (rp (Pu.bin rfl rfl rfl) (rp (Pu.pickT rfl rfl) ?_)))))))
        exact hJ19 _ _ ⟨dAndT hc18,rfl,rfl,rfl,rfl,rfl,rfl,rfl,rfl,rfl,rfl,trivial⟩ (fun w s=>s)
       ·refine ro (ro (ro (ro (ro (ro (ro (rp (Pu.pickF rfl rfl) ?_)))))))
        exact hJ19 _ _ ⟨dAndF hc18,rfl,rfl,rfl,rfl,rfl,rfl,rfl,rfl,rfl,rfl,trivial⟩ (fun w s=>s)
   ·intro hJ11
    refine RS.splitP 14 rfl (fun hc10=>?_) (fun hc10=>?_)
    ·refine ro (ro (rp (Pu.pickT rfl rfl) ?_))
     exact hJ11 _ _ ⟨dOrT hc10,rfl,rfl,rfl,rfl,rfl,rfl,trivial⟩ (fun w s=>s)
    ·refine rM rfl (rp (Pu.bin rfl rfl rfl) (rp (Pu.pickF rfl rfl) ?_))
     exact hJ11 _ _ ⟨dOrF hc10,rfl,rfl,rfl,rfl,rfl,rfl,trivial⟩ (fun w s=>s)
  ·have H:=ifF hc6 H
   obtain rfl:=hd1 _ H
   refine T.xt (hJ1 _ _ () () HX1 ⟨rfl,trivial⟩ trivial (fun w s=>s))
theorem command_within_walk (a0_n:Int) (a1_least:Int) (a2_most:Int) (w:World) {r:Bool} (H:command_within a0_n a1_least a2_most = some r):Calls Tryz.prog 125 #[.int .i64 a0_n,.int .i64 a1_least,.int .i64 a2_most] w fun e w'=>e = .returned (.bool r)∧Ext w w':=by
 unfold command_within at H
 refine T.enter (args:=[_,_,_]) (S:=Sat w []) Tryz.func125 rfl rfl (Sat.start w) ?_
 refine T.seq fun K1 hK1=>T.region (rA rfl (RS.nil (hK1 _ _ ?_)))
 refine T.seq fun K2 hK2=>T.region (rM rfl (rM rfl (rp (Pu.bin rfl rfl rfl) (rM rfl ?_))))
 refine RS.joinV 4 14 (.bool (decide ((a1_least ≤ a0_n)∧(a0_n ≤ a2_most)))) [(6,_)] ⟨rfl,trivial⟩ ?_ ?_
 ·refine rA rfl (RS.nil (hK2 _ _ ?_))
  obtain rfl:=sj H
  refine T.rt (Cont.ret1 rfl rfl fun w' s=>?_)
  exact ⟨rfl,s.ext⟩
 ·intro hJ2
  refine RS.splitP 10 rfl (fun hc1=>?_) (fun hc1=>?_)
  ·refine rM rfl (rM rfl (rp (Pu.bin rfl rfl rfl) (rp (Pu.pickT rfl rfl) ?_)))
   exact hJ2 _ _ ⟨dAndT hc1,rfl,trivial⟩ (fun w s=>s)
  ·refine ro (ro (ro (rp (Pu.pickF rfl rfl) ?_)))
   exact hJ2 _ _ ⟨dAndF hc1,rfl,trivial⟩ (fun w s=>s)
end Go.Proofs.YtmngdgclldkcfaaGreat
set_option linter.unusedVariables false
set_option linter.unusedSimpArgs false
set_option maxRecDepth 20000
set_option maxHeartbeats 4000000
namespace Go.Proofs.YtmngdgclldkcfaaGreat
open Go.Vg
open Enc (R)
structure Wld where
 tick:Int
 players:Int
 nextid:Int
 g:Grd
 bs:List Bld
 us:List Unt
 deriving Inhabited
instance:Enc Wld where
 sz:=8
 R h x cs:=∃ v5 v6 v7,cs = [.int .i64 x.tick,.int .i64 x.players,.int .i64 x.nextid,.int .i64 x.g.w,.int .i64 x.g.h,v5,v6,v7]∧Enc.R h (x.g.tiles:List UInt8) [v5]∧Enc.R h (x.bs:List Bld) [v6]∧Enc.R h (x.us:List Unt) [v7]
 len:=fun ⟨v5,v6,v7,e,h5,h6,h7⟩=>by rw [e]; rfl
 one:=fun ⟨v5,v6,v7,e,h5,h6,h7⟩ u hu=>by
  rw [e] at hu; simp only [List.mem_cons,List.not_mem_nil,or_false] at hu
  rcases hu with rfl | rfl | rfl | rfl | rfl | rfl | rfl | rfl
  ·rfl
  ·rfl
  ·rfl
  ·rfl
  ·rfl
  ·exact Enc.one h5 _ (by simp)
  ·exact Enc.one h6 _ (by simp)
  ·exact Enc.one h7 _ (by simp)
 mono:=fun hl ⟨v5,v6,v7,e,h5,h6,h7⟩=>⟨v5,v6,v7,e,Enc.mono hl h5,Enc.mono hl h6,Enc.mono hl h7⟩
instance:Deep Wld where
 D h x c:=∃ q0 q1 q2:Option Nat × Nat,c = [.int .i64 x.tick,.int .i64 x.players,.int .i64 x.nextid,.int .i64 x.g.w,.int .i64 x.g.h,rowV q0 x.g.tiles.length,rowV q1 x.bs.length,rowV q2 x.us.length]∧stars [row nilH 5 (rowV q0 x.g.tiles.length) x.g.tiles,row nilH 135 (rowV q1 x.bs.length) x.bs,row nilH 54 (rowV q2 x.us.length) x.us] h
 toR:=fun ⟨q0,q1,q2,e,⟨_,_,a0,⟨_,_,a1,⟨_,_,a2,_,_,l2,k2⟩,_,l1,k1⟩,_,l0,k0⟩⟩=>⟨_,_,_,e,Enc.mono l0 (row_R a0),Enc.mono (Hp.le_trans l1 k0) (row_R a1),Enc.mono (Hp.le_trans l2 (Hp.le_trans k1 k0)) (row_R a2)⟩
 mono:=fun hl ⟨q0,q1,q2,e,s⟩=>⟨_,_,_,e,stars_mono hl s⟩
def Wld.Wf (x:Wld):Prop:=(I64 x.tick)∧(I64 x.players)∧(I64 x.nextid)∧(Grd.Wf x.g)∧((∀ y ∈ x.bs,Bld.Wf y)∧x.bs.length ≤ 140737488351232)∧((∀ y ∈ x.us,Unt.Wf y)∧x.us.length ≤ 140737488351232)
end Go.Proofs.YtmngdgclldkcfaaGreat
set_option linter.unusedVariables false
set_option linter.unusedSimpArgs false
set_option maxRecDepth 20000
set_option maxHeartbeats 4000000
namespace Go.Proofs.YtmngdgclldkcfaaGreat
open Go.Vg
open Enc (R)
theorem co31:Tryz.prog.cellsOf 31 = 5:=by kernel_rfl
theorem uf31:structOf Tryz.prog 31 = some [(3,0),(3,1),(3,2),(3,3),(29,4)]:=by kernel_rfl
structure Frm where
 turn:Int
 commands:List Cmd
 hash:UInt64
 deriving Inhabited
instance:Enc Frm where
 sz:=3
 R h x cs:=∃ v1,cs = [.int .i64 x.turn,v1,.int .u64 x.hash.toNat]∧Enc.R h (x.commands:List Cmd) [v1]
 len:=fun ⟨v1,e,h1⟩=>by rw [e]; rfl
 one:=fun ⟨v1,e,h1⟩ u hu=>by
  rw [e] at hu; simp only [List.mem_cons,List.not_mem_nil,or_false] at hu
  rcases hu with rfl | rfl | rfl
  ·rfl
  ·exact Enc.one h1 _ (by simp)
  ·rfl
 mono:=fun hl ⟨v1,e,h1⟩=>⟨v1,e,Enc.mono hl h1⟩
instance:Deep Frm where
 D h x c:=∃ q0:Option Nat × Nat,c = [.int .i64 x.turn,rowV q0 x.commands.length,.int .u64 x.hash.toNat]∧stars [drow 37 (rowV q0 x.commands.length) x.commands] h
 toR:=fun ⟨q0,e,⟨_,_,a0,_,_,l0,k0⟩⟩=>⟨_,e,Enc.mono l0 (drow_R a0)⟩
 mono:=fun hl ⟨q0,e,s⟩=>⟨_,e,stars_mono hl s⟩
def Frm.Wf (x:Frm):Prop:=(I64 x.turn)∧((∀ y ∈ x.commands,Cmd.Wf y)∧x.commands.length ≤ 140737488351232)
structure Act where
 kind:Int
 peer:Int
 n:Int
 pick:Int
 commands:List Cmd
 deriving Inhabited
instance:Enc Act where
 sz:=5
 R h x cs:=∃ v4,cs = [.int .i64 x.kind,.int .i64 x.peer,.int .i64 x.n,.int .i64 x.pick,v4]∧Enc.R h (x.commands:List Cmd) [v4]
 len:=fun ⟨v4,e,h4⟩=>by rw [e]; rfl
 one:=fun ⟨v4,e,h4⟩ u hu=>by
  rw [e] at hu; simp only [List.mem_cons,List.not_mem_nil,or_false] at hu
  rcases hu with rfl | rfl | rfl | rfl | rfl
  ·rfl
  ·rfl
  ·rfl
  ·rfl
  ·exact Enc.one h4 _ (by simp)
 mono:=fun hl ⟨v4,e,h4⟩=>⟨v4,e,Enc.mono hl h4⟩
instance:Deep Act where
 D h x c:=∃ q0:Option Nat × Nat,c = [.int .i64 x.kind,.int .i64 x.peer,.int .i64 x.n,.int .i64 x.pick,rowV q0 x.commands.length]∧stars [drow 37 (rowV q0 x.commands.length) x.commands] h
 toR:=fun ⟨q0,e,⟨_,_,a0,_,_,l0,k0⟩⟩=>⟨_,e,Enc.mono l0 (drow_R a0)⟩
 mono:=fun hl ⟨q0,e,s⟩=>⟨_,e,stars_mono hl s⟩
def Act.Wf (x:Act):Prop:=(I64 x.kind)∧(I64 x.peer)∧(I64 x.n)∧(I64 x.pick)∧((∀ y ∈ x.commands,Cmd.Wf y)∧x.commands.length ≤ 140737488351232)
theorem rd_Act:Rdbl Tryz.prog 31 Act Act.Wf:=fun H enc w fuel cs x h hzd=>by
 obtain ⟨fs,hu,hfs⟩:=structOf_spec uf31
 obtain ⟨hl,m,hf⟩:=trod_field hu h hzd
 obtain ⟨f0,hf0,ht0,ho0⟩:∃ f,fs[0]? = some f∧f.type = 3∧f.offset = 0:=by
  have h1:(fs.toList.map (fun f=>(f.type,f.offset)))[0]? = some (3,0):=by rw [hfs]; rfl
  rw [List.getElem?_map,Option.map_eq_some_iff] at h1
  obtain ⟨f,h2,h3⟩:=h1
  simp only [Prod.mk.injEq] at h3
  exact ⟨f,by simpa using h2,h3.1,h3.2⟩
 obtain ⟨y0,hy0⟩:=hf 0 f0 hf0
 rw [ht0,ho0,co3] at hy0
 obtain ⟨a0,ha0,hw0⟩:=Rdbl.part (Rdbl.int ul3) hy0
 obtain ⟨f1,hf1,ht1,ho1⟩:∃ f,fs[1]? = some f∧f.type = 3∧f.offset = 1:=by
  have h1:(fs.toList.map (fun f=>(f.type,f.offset)))[1]? = some (3,1):=by rw [hfs]; rfl
  rw [List.getElem?_map,Option.map_eq_some_iff] at h1
  obtain ⟨f,h2,h3⟩:=h1
  simp only [Prod.mk.injEq] at h3
  exact ⟨f,by simpa using h2,h3.1,h3.2⟩
 obtain ⟨y1,hy1⟩:=hf 1 f1 hf1
 rw [ht1,ho1,co3] at hy1
 obtain ⟨a1,ha1,hw1⟩:=Rdbl.part (Rdbl.int ul3) hy1
 obtain ⟨f2,hf2,ht2,ho2⟩:∃ f,fs[2]? = some f∧f.type = 3∧f.offset = 2:=by
  have h1:(fs.toList.map (fun f=>(f.type,f.offset)))[2]? = some (3,2):=by rw [hfs]; rfl
  rw [List.getElem?_map,Option.map_eq_some_iff] at h1
  obtain ⟨f,h2,h3⟩:=h1
  simp only [Prod.mk.injEq] at h3
  exact ⟨f,by simpa using h2,h3.1,h3.2⟩
 obtain ⟨y2,hy2⟩:=hf 2 f2 hf2
 rw [ht2,ho2,co3] at hy2
 obtain ⟨a2,ha2,hw2⟩:=Rdbl.part (Rdbl.int ul3) hy2
 obtain ⟨f3,hf3,ht3,ho3⟩:∃ f,fs[3]? = some f∧f.type = 3∧f.offset = 3:=by
  have h1:(fs.toList.map (fun f=>(f.type,f.offset)))[3]? = some (3,3):=by rw [hfs]; rfl
  rw [List.getElem?_map,Option.map_eq_some_iff] at h1
  obtain ⟨f,h2,h3⟩:=h1
  simp only [Prod.mk.injEq] at h3
  exact ⟨f,by simpa using h2,h3.1,h3.2⟩
 obtain ⟨y3,hy3⟩:=hf 3 f3 hf3
 rw [ht3,ho3,co3] at hy3
 obtain ⟨a3,ha3,hw3⟩:=Rdbl.part (Rdbl.int ul3) hy3
 obtain ⟨f4,hf4,ht4,ho4⟩:∃ f,fs[4]? = some f∧f.type = 29∧f.offset = 4:=by
  have h1:(fs.toList.map (fun f=>(f.type,f.offset)))[4]? = some (29,4):=by rw [hfs]; rfl
  rw [List.getElem?_map,Option.map_eq_some_iff] at h1
  obtain ⟨f,h2,h3⟩:=h1
  simp only [Prod.mk.injEq] at h3
  exact ⟨f,by simpa using h2,h3.1,h3.2⟩
 obtain ⟨y4,hy4⟩:=hf 4 f4 hf4
 rw [ht4,ho4,co29] at hy4
 obtain ⟨a4,ha4,hw4⟩:=Rdbl.part (Rdbl.slice usl29 co37 (by decide) rd_Cmd bz37) hy4
 rw [co31] at hl
 obtain ⟨x0,x1,x2,x3,x4,rfl⟩:∃ x0 x1 x2 x3 x4,cs = [x0,x1,x2,x3,x4]:=by
  match cs,hl with
  | [x0,x1,x2,x3,x4],_=>exact ⟨x0,x1,x2,x3,x4,rfl⟩
 simp only [List.drop_succ_cons,List.drop_zero,List.take_succ_cons,List.take_zero] at ha0 ha1 ha2 ha3 ha4
 obtain rfl:x0 = _:=by simpa [Enc.R] using ha0
 obtain rfl:x1 = _:=by simpa [Enc.R] using ha1
 obtain rfl:x2 = _:=by simpa [Enc.R] using ha2
 obtain rfl:x3 = _:=by simpa [Enc.R] using ha3
 exact ⟨⟨a0,a1,a2,a3,a4⟩,⟨_,rfl,ha4⟩,⟨hw0,hw1,hw2,hw3,hw4⟩⟩
structure Rep where
 turns:List Int
 hashes:List (List UInt64)
 worlds:List Wld
 splits:List Bool
 log:List Frm
 deriving Inhabited
end Go.Proofs.YtmngdgclldkcfaaGreat
