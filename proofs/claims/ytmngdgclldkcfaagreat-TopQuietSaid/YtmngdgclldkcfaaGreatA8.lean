/-
  Texts of one's own, joined: TLH TLK1.
-/
import Derived.Test.YtmngdgclldkcfaaGreatRows
import Derived.Test.YtmngdgclldkcfaaGreatW3
import Derived.Test.YtmngdgclldkcfaaGreatA5
import Derived.Test.YtmngdgclldkcfaaGreatSSH
set_option linter.unusedVariables false
set_option linter.unusedSimpArgs false
set_option maxRecDepth 20000
set_option maxHeartbeats 4000000
namespace Go.Proofs.YtmngdgclldkcfaaGreat
open Go.Vg
open Enc (R)
theorem ent11:Ent Tryz.prog 11:=⟨_,_,Tryz.func11,by kernel_rfl,rfl⟩
theorem ent12:Ent Tryz.prog 12:=⟨_,_,Tryz.func12,by kernel_rfl,rfl⟩
theorem ent27:Ent Tryz.prog 27:=⟨_,_,Tryz.func27,by kernel_rfl,rfl⟩
theorem ent28:Ent Tryz.prog 28:=⟨_,_,Tryz.func28,by kernel_rfl,rfl⟩
theorem ent33:Ent Tryz.prog 33:=⟨_,_,Tryz.func33,by kernel_rfl,rfl⟩
theorem ent34:Ent Tryz.prog 34:=⟨_,_,Tryz.func34,by kernel_rfl,rfl⟩
theorem ent35:Ent Tryz.prog 35:=⟨_,_,Tryz.func35,by kernel_rfl,rfl⟩
theorem ent56:Ent Tryz.prog 56:=⟨_,_,Tryz.func56,by kernel_rfl,rfl⟩
theorem eqt2_54:eqTy2 Tryz.prog 54 = some [(0,none),(1,none),(2,none),(3,some (2,[0,1])),(5,none),(6,none),(7,none),(8,none),(9,none)]:=by kernel_rfl
theorem fd27_0:fdOff Tryz.prog 27 0 = some 0:=by kernel_rfl
theorem fd27_1:fdOff Tryz.prog 27 1 = some 3:=by kernel_rfl
theorem fd27_2:fdOff Tryz.prog 27 2 = some 4:=by kernel_rfl
theorem fd27_3:fdOff Tryz.prog 27 3 = some 5:=by kernel_rfl
theorem fd27_4:fdOff Tryz.prog 27 4 = some 6:=by kernel_rfl
theorem st24:stTy Tryz.prog 24 = some ([.int .i64 0,.int .i64 0,.slice none 0 0],[(0,1),(1,1),(2,1)]):=by kernel_rfl
theorem st31:stTy Tryz.prog 31 = some ([.int .i64 0,.int .i64 0,.int .i64 0,.int .i64 0,.slice none 0 0],[(0,1),(1,1),(2,1),(3,1),(4,1)]):=by kernel_rfl
theorem ty25:tySz Tryz.prog 25 = some (1,false):=by kernel_rfl
theorem ty27:tySz Tryz.prog 27 = some (7,true):=by kernel_rfl
theorem thronglaw0_CommandsWeight_walk (a0_l:List Cmd) (w:World) {v0:Value} (h0:R (hpOf w) a0_l [v0]) {r:Int} (H:thronglaw0_CommandsWeight a0_l = some r):Calls Tryz.prog 56 #[v0] w fun e w'=>e = .returned (.int .i64 r)∧Ext w w':=by
 have hm0:=R_max h0
 obtain ⟨p0,c0,rfl⟩:=R_form h0
 unfold thronglaw0_CommandsWeight at H
 refine T.enter (args:=[_]) (S:=Sat w []) Tryz.func56 rfl rfl (Sat.start w) ?_
 refine T.seq fun K1 hK1=>T.region (rA rfl (RS.nil (hK1 _ _ ?_)))
 refine T.seq fun K2 hK2=>T.region (rM rfl (rp (Pu.lenSl sl29 rfl) (rA rfl (RS.nil (hK2 _ _ (cq [(0,_),(3,_)] ?_))))))
 refine T.seq fun K3 hK3=>T.seq fun K4 hK4=>T.region (rA rfl (RS.nil (hK4 _ _ ?_)))
 refine T.joinE (σ:=Int) (γ:=Unit) H (fun s=>s) [] trivial (fun v2 _=>[(3,.int .i64 v2)]) (fun v2 _=>Sat w []) ?_ ?_
 ·rintro v2 ⟨⟩ H
  try dsimp only [Ex.then] at H
  refine Cont.conseq (fr':=[(3,_)]) ?_ ⟨rfl,trivial⟩ (fun _ s=>s)
  refine id (hK3 _ _ ?_)
  refine T.seq fun K5 hK5=>T.region (rM rfl (rA rfl (RS.nil (hK5 _ _ ?_))))
  obtain rfl:=sj H
  refine T.rt (Cont.ret1 rfl rfl fun w' s=>?_)
  exact ⟨rfl,s.ext⟩
 ·intro z1 hz1 HX1 hJ1
  refine T.block ?_
  refine T.loopA (γ:=Unit) hz1 [(0,_)] (fun (v3,v4) _=>[(3,.int .i64 v3),(4,.int .i64 v4)]) (fun (v3,v4) _=>Sat w []) () ⟨rfl,trivial⟩ ⟨rfl,rfl,trivial⟩ (fun w s=>s) ?_
  rintro ⟨v3,v4⟩ ⟨⟩ y5 H hd1 KL1 hL1
  try dsimp only [Ex.then] at H
  refine cq [(3,_),(4,_),(0,_)] ?_
  refine T.seq fun K6 hK6=>T.seq fun K7 hK7=>T.region (rM rfl (rM rfl (rp (Pu.lenSl sl29 rfl) (rp (Pu.bin rfl rfl rfl) (rM rfl ?_)))))
  refine RS.joinV 3 14 (.bool (decide ((v4 < (a0_l.length:Int))∧(v3 < 1048576)))) [(0,_),(3,_),(4,_)] ⟨rfl,rfl,rfl,trivial⟩ ?_ ?_
  ·refine RS.nil (hK7 _ _ ?_)
   refine T.condP rfl (fun hc8=>?_) (fun hc8=>?_)
   ·have H:=ifT hc8 H
    refine T.skip (hK6 _ _ ?_)
    refine T.seq fun K8 hK8=>T.block (T.region (rM rfl (rM rfl (rM rfl ?_))))
    obtain ⟨g9,H⟩:=gdE H
    obtain ⟨bl10,ol11,rfl⟩:=R_ptr h0 (ne_of_pos (pos_of g9))
    refine rp (Pu.indexSl sl29 rfl rfl g9) (rp (Pu.fieldAddr fd37_4 rfl) ?_)
    obtain ⟨c12,hc13,ha14⟩:=R_el (α:=Cmd) h0 g9
    obtain ⟨u15,rfl,hu15⟩:=hc13
    obtain ⟨p16,cc17,rfl⟩:=R_form hu15
    refine rq (Qt.ldZ1 (f:=4) (cs:=[_,_,_,_,_,_,_,_,_,_]) ty35 rfl ha14 Held.base rfl) (rp (Pu.lenSl sl35 rfl) ?_)
    obtain ⟨g18,H⟩:=gdE H
    refine rp (Pu.addS rfl rfl g18) (rA rfl (RS.nil (hK8 _ _ (cq [(0,_),(3,_),(4,_)] ?_))))
    refine T.region (rM rfl ?_)
    obtain ⟨g19,H⟩:=gdE H
    refine rp (Pu.addS rfl rfl g19) (rA rfl (RS.nil (hL1 _ _ ((v3 + (((gi a0_l v4).units).length:Int)),(v4 + 1)) () H ⟨rfl,trivial⟩ ⟨rfl,rfl,trivial⟩ (fun w s=>s))))
   ·have H:=ifF hc8 H
    obtain rfl:=hd1 _ H
    refine T.xt (hJ1 _ _ v3 () HX1 trivial ⟨rfl,trivial⟩ (fun w s=>s))
  ·intro hJ7
   refine RS.splitP 11 rfl (fun hc6=>?_) (fun hc6=>?_)
   ·refine rM rfl (rp (Pu.bin rfl rfl rfl) (rp (Pu.pickT rfl rfl) ?_))
    exact hJ7 _ _ ⟨dAndT hc6,rfl,rfl,rfl,trivial⟩ (fun w s=>s)
   ·refine ro (ro (rp (Pu.pickF rfl rfl) ?_))
    exact hJ7 _ _ ⟨dAndF hc6,rfl,rfl,rfl,trivial⟩ (fun w s=>s)
theorem thronglaw30_Heavy_walk (a0_p:Scr30) (w:World) {v0 v1:Value} (h0:R (hpOf w) a0_p.g.tiles [v0]) (h1:R (hpOf w) a0_p.l [v1]) {r:Bool} (H:thronglaw30_Heavy a0_p = some r):Calls Tryz.prog 27 #[.agg #[.int .i64 a0_p.g.w,.int .i64 a0_p.g.h,v0,.int .i64 a0_p.players,.int .i64 a0_p.delay,.int .i64 a0_p.room,v1]] w fun e w'=>e = .returned (.bool r)∧Ext w w':=by
 have hm0:=R_max h0
 obtain ⟨p0,c0,rfl⟩:=R_form h0
 have hm1:=R_max h1
 obtain ⟨p1,c1,rfl⟩:=R_form h1
 unfold thronglaw30_Heavy at H
 refine T.enter (args:=[_]) (S:=Sat w []) Tryz.func27 rfl rfl (Sat.start w) ?_
 refine T.seq fun K1 hK1=>T.region (RS.solid (Sd.box (cs:=[_,_,_,_,_,_,_]) rfl rfl) rfl rfl fun b1=>rA rfl (RS.nil (hK1 _ _ ?_)))
 refine T.seq fun K2 hK2=>T.region (rA rfl (RS.nil (hK2 _ _ ?_)))
 refine T.seq fun K3 hK3=>T.seq fun K4 hK4=>T.region (rA rfl (RS.nil (hK4 _ _ ?_)))
 refine T.joinE (σ:=Int) (γ:=Unit) H (fun s=>s) [(1,_)] ⟨rfl,trivial⟩ (fun v3 _=>[(3,.int .i64 v3)]) (fun v3 _=>Sat w [blk b1 [.int .i64 a0_p.g.w,.int .i64 a0_p.g.h,.slice p0 a0_p.g.tiles.length c0,.int .i64 a0_p.players,.int .i64 a0_p.delay,.int .i64 a0_p.room,.slice p1 a0_p.l.length c1] 27]) ?_ ?_
 ·rintro v3 ⟨⟩ H
  try dsimp only [Ex.then] at H
  refine Cont.conseq (fr':=[(3,_),(1,_)]) ?_ ⟨rfl,rfl,trivial⟩ (fun _ s=>s)
  refine id (hK3 _ _ ?_)
  refine T.seq fun K5 hK5=>T.region (rM rfl (rp (Pu.bin rfl rfl rfl) (rM rfl ?_)))
  refine RS.joinV 5 32 (.bool (decide ((500 < v3) ∨ (100 < (a0_p.l.length:Int))))) [(1,_)] ⟨rfl,trivial⟩ ?_ ?_
  ·refine rM rfl ?_
   refine RS.joinV 6 39 (.bool (decide (((500 < v3) ∨ (100 < (a0_p.l.length:Int))) ∨ (200 < (a0_p.g.tiles.length:Int))))) [] trivial ?_ ?_
   ·refine rA rfl (RS.nil (hK5 _ _ ?_))
    obtain rfl:=sj H
    refine T.rt (Cont.ret1 rfl rfl fun w' s=>?_)
    exact ⟨rfl,s.ext⟩
   ·intro hJ7
    refine RS.splitP 33 rfl (fun hc6=>?_) (fun hc6=>?_)
    ·refine ro (ro (ro (ro (ro (rp (Pu.pickT rfl rfl) ?_)))))
     exact hJ7 _ _ ⟨dOrT hc6,trivial⟩ (fun w s=>s)
    ·refine rp (Pu.fieldAddr fd27_0 rfl) (rp (Pu.fieldAddr fd24_2 rfl) (rq (Qt.ldB 0 ty22 rfl rfl rfl) (rp (Pu.lenSl sl22 rfl) (rp (Pu.bin rfl rfl rfl) (rp (Pu.pickF rfl rfl) ?_)))))
     exact hJ7 _ _ ⟨dOrF hc6,trivial⟩ (fun w s=>s)
  ·intro hJ5
   refine RS.splitP 27 rfl (fun hc4=>?_) (fun hc4=>?_)
   ·refine ro (ro (ro (ro (rp (Pu.pickT rfl rfl) ?_))))
    exact hJ5 _ _ ⟨dOrT hc4,rfl,trivial⟩ (fun w s=>s)
   ·refine rp (Pu.fieldAddr fd27_4 rfl) (rq (Qt.ldB 0 ty25 rfl rfl rfl) (rp (Pu.lenSl sl25 rfl) (rp (Pu.bin rfl rfl rfl) (rp (Pu.pickF rfl rfl) ?_))))
    exact hJ5 _ _ ⟨dOrF hc4,rfl,trivial⟩ (fun w s=>s)
 ·intro z2 hz2 HX2 hJ2
  refine T.block ?_
  refine T.loopA (γ:=Unit) hz2 [(1,_)] (fun (v8,v9) _=>[(3,.int .i64 v8),(4,.int .i64 v9)]) (fun (v8,v9) _=>Sat w [blk b1 [.int .i64 a0_p.g.w,.int .i64 a0_p.g.h,.slice p0 a0_p.g.tiles.length c0,.int .i64 a0_p.players,.int .i64 a0_p.delay,.int .i64 a0_p.room,.slice p1 a0_p.l.length c1] 27]) () ⟨rfl,trivial⟩ ⟨rfl,rfl,trivial⟩ (fun w s=>s) ?_
  rintro ⟨v8,v9⟩ ⟨⟩ y10 H hd2 KL2 hL2
  try dsimp only [Ex.then] at H
  refine cq [(3,_),(4,_),(1,_)] ?_
  refine T.seq fun K6 hK6=>T.seq fun K7 hK7=>T.region (rM rfl (rp (Pu.fieldAddr fd27_4 rfl) (rq (Qt.ldB 0 ty25 rfl rfl rfl) (rp (Pu.lenSl sl25 rfl) (rp (Pu.bin rfl rfl rfl) (rM rfl ?_))))))
  refine RS.joinV 3 13 (.bool (decide ((v9 < (a0_p.l.length:Int))∧(v8 < 1048576)))) [(1,_),(3,_),(4,_)] ⟨rfl,rfl,rfl,trivial⟩ ?_ ?_
  ·refine RS.nil (hK7 _ _ ?_)
   refine T.condP rfl (fun hc13=>?_) (fun hc13=>?_)
   ·have H:=ifT hc13 H
    refine T.skip (hK6 _ _ ?_)
    refine T.seq fun K8 hK8=>T.block (T.region (rM rfl (rp (Pu.fieldAddr fd27_4 rfl) (rq (Qt.ldB 0 ty25 rfl rfl rfl) (rM rfl ?_)))))
    obtain ⟨g14,H⟩:=gdE H
    obtain ⟨bl15,ol16,rfl⟩:=R_ptr h1 (ne_of_pos (pos_of g14))
    refine rp (Pu.indexSl sl25 rfl rfl g14) (rp (Pu.fieldAddr fd31_4 rfl) ?_)
    obtain ⟨c17,hc18,ha19⟩:=R_el (α:=Act) h1 g14
    obtain ⟨u20,rfl,hu20⟩:=hc18
    obtain ⟨p21,cc22,rfl⟩:=R_form hu20
    refine rq (Qt.ldZ1 (f:=4) (cs:=[_,_,_,_,_]) ty29 rfl ha19 Held.base rfl) ?_
    obtain ⟨x23,hx23,H⟩:=bindE H
    refine rq (Qt.call (vs:=[.slice p21 ((gi a0_p.l v9).commands).length cc22]) ent56 rfl fun w s=>thronglaw0_CommandsWeight_walk (gi a0_p.l v9).commands w ((Rd.base hu20) w s) hx23) ?_
    obtain ⟨g24,H⟩:=gdE H
    refine rp (Pu.addS rfl rfl g24) (rA rfl (RS.nil (hK8 _ _ (cq [(1,_),(3,_),(4,_)] ?_))))
    refine T.region (rM rfl ?_)
    obtain ⟨g25,H⟩:=gdE H
    refine rp (Pu.addS rfl rfl g25) (rA rfl (RS.nil (hL2 _ _ ((v8 + x23),(v9 + 1)) () H ⟨rfl,trivial⟩ ⟨rfl,rfl,trivial⟩ (fun w s=>s))))
   ·have H:=ifF hc13 H
    obtain rfl:=hd2 _ H
    refine T.xt (hJ2 _ _ v8 () HX2 ⟨rfl,trivial⟩ ⟨rfl,trivial⟩ (fun w s=>s))
  ·intro hJ12
   refine RS.splitP 10 rfl (fun hc11=>?_) (fun hc11=>?_)
   ·refine rM rfl (rp (Pu.bin rfl rfl rfl) (rp (Pu.pickT rfl rfl) ?_))
    exact hJ12 _ _ ⟨dAndT hc11,rfl,rfl,rfl,trivial⟩ (fun w s=>s)
   ·refine ro (ro (rp (Pu.pickF rfl rfl) ?_))
    exact hJ12 _ _ ⟨dAndF hc11,rfl,rfl,rfl,trivial⟩ (fun w s=>s)
theorem throngref0_EqUnits_walk (a0_a:List Unt) (a1_b:List Unt) (w:World) {v0 v1:Value} (h0:R (hpOf w) a0_a [v0]) (h1:R (hpOf w) a1_b [v1]) {r:Bool} (H:throngref0_EqUnits a0_a a1_b = some r):Calls Tryz.prog 35 #[v0,v1] w fun e w'=>e = .returned (.bool r)∧Ext w w':=by
 have hm0:=R_max h0
 obtain ⟨p0,c0,rfl⟩:=R_form h0
 have hm1:=R_max h1
 obtain ⟨p1,c1,rfl⟩:=R_form h1
 unfold throngref0_EqUnits at H
 refine T.enter (args:=[_,_]) (S:=Sat w []) Tryz.func35 rfl rfl (Sat.start w) ?_
 refine T.seq fun K1 hK1=>T.region (rA rfl (RS.nil (hK1 _ _ ?_)))
 refine T.seq fun K2 hK2=>T.seq fun K3 hK3=>T.region (rM rfl (rp (Pu.lenSl sl50 rfl) (rM rfl (rp (Pu.lenSl sl50 rfl) (rp (Pu.bin rfl rfl rfl) (RS.nil (hK3 _ _ ?_)))))))
 refine T.condP rfl (fun hc1=>?_) (fun hc1=>?_)
 ·have H:=ifT hc1 H
  refine cq [] ?_
  refine T.seq fun K4 hK4=>T.region (rA rfl (RS.nil (hK4 _ _ ?_)))
  obtain rfl:=sj H
  refine T.rt (Cont.ret1 rfl rfl fun w' s=>?_)
  exact ⟨rfl,s.ext⟩
 ·have H:=ifF hc1 H
  refine T.skip (hK2 _ _ (cq [(0,_),(1,_)] ?_))
  refine T.seq fun K5 hK5=>T.seq fun K6 hK6=>T.region (rA rfl (RS.nil (hK6 _ _ ?_)))
  refine T.joinE (σ:=Unit) (γ:=Unit) H Ex.go [] trivial (fun _ _=>[]) (fun _ _=>Sat w []) ?_ ?_
  ·rintro ⟨⟩ ⟨⟩ H
   try dsimp only [Ex.then] at H
   refine Cont.conseq (fr':=[]) ?_ trivial (fun _ s=>s)
   refine id (hK5 _ _ ?_)
   refine T.seq fun K7 hK7=>T.region (rA rfl (RS.nil (hK7 _ _ ?_)))
   obtain rfl:=sj H
   refine T.rt (Cont.ret1 rfl rfl fun w' s=>?_)
   exact ⟨rfl,s.ext⟩
  ·intro z2 hz2 HX2 hJ2
   refine T.block ?_
   refine T.loopA (γ:=Unit) hz2 [(0,_),(1,_)] (fun v3 _=>[(5,.int .i64 v3)]) (fun v3 _=>Sat w []) () ⟨rfl,rfl,trivial⟩ ⟨rfl,trivial⟩ (fun w s=>s) ?_
   rintro v3 ⟨⟩ y4 H hd2 KL2 hL2
   try dsimp only [Ex.then] at H
   refine cq [(5,_),(0,_),(1,_)] ?_
   refine T.seq fun K8 hK8=>T.seq fun K9 hK9=>T.region (rM rfl (rM rfl (rp (Pu.lenSl sl50 rfl) (rp (Pu.bin rfl rfl rfl) (RS.nil (hK9 _ _ ?_))))))
   refine T.condP rfl (fun hc5=>?_) (fun hc5=>?_)
   ·have H:=ifT hc5 H
    refine T.skip (hK8 _ _ (cq [(0,_),(1,_),(5,_)] ?_))
    refine T.seq fun K10 hK10=>T.block (T.seq fun K11 hK11=>?_)
    refine T.drawn (fun _=>True) [(0,.pu),(1,.pu),(2,.pu),(3,.rd),(4,.pu),(5,.pu),(6,.pu),(7,.rd),(8,.pu)] mixed (ClE.sat _ _) (by kernel_rfl) ?_
    refine dp rfl (Pu.move rfl) (dp rfl (Pu.move rfl) ?_)
    obtain ⟨g6,H⟩:=gdE H
    obtain ⟨bl7,ol8,rfl⟩:=R_ptr h0 (ne_of_pos (pos_of g6))
    refine dp rfl (Pu.indexSl sl50 rfl rfl g6) (dq rfl (Qt.ldW (α:=Unt) (cs:=[_,_,_,_,_,_,_,_,_,_]) (Rd.base h0) ty54 rfl rfl g6 rfl (by rintro _ _ rfl; rfl)) (dp rfl (Pu.move rfl) (dp rfl (Pu.move rfl) ?_)))
    obtain ⟨g9,H⟩:=gdE H
    obtain ⟨bl10,ol11,rfl⟩:=R_ptr h1 (ne_of_pos (pos_of g9))
    refine dp rfl (Pu.indexSl sl50 rfl rfl g9) (dq rfl (Qt.ldW (α:=Unt) (cs:=[_,_,_,_,_,_,_,_,_,_]) (Rd.base h1) ty54 rfl rfl g9 rfl (by rintro _ _ rfl; rfl)) (dp rfl (Pu.neSt2 eqt2_54 rfl rfl rfl (eq2_Unt (gi a0_a v3) (gi a1_b v3))) (RD.nil (hK11 _ _ ?_))))
    refine T.condP rfl (fun hc12=>?_) (fun hc12=>?_)
    ·have H:=ifT hc12 H
     refine cq [] ?_
     refine T.seq fun K12 hK12=>T.region (rA rfl (RS.nil (hK12 _ _ ?_)))
     obtain rfl:=hd2 _ H
     have H:=HX2
     obtain rfl:=sj H
     refine T.rt (Cont.ret1 rfl rfl fun w' s=>?_)
     exact ⟨rfl,s.ext⟩
    ·have H:=ifF hc12 H
     refine T.skip (hK10 _ _ (cq [(0,_),(1,_),(5,_)] ?_))
     refine T.region (rM rfl ?_)
     obtain ⟨g13,H⟩:=gdE H
     refine rp (Pu.addS rfl rfl g13) (rA rfl (RS.nil (hL2 _ _ (v3 + 1) () H ⟨rfl,rfl,trivial⟩ ⟨rfl,trivial⟩ (fun w s=>s))))
   ·have H:=ifF hc5 H
    obtain rfl:=hd2 _ H
    refine T.xt (hJ2 _ _ () () HX2 trivial trivial (fun w s=>s))
theorem throngref0_EqWorld_walk (a0_a:Wld) (a1_b:Wld) (w:World) {v0 v1 v2 v3 v4 v5:Value} (h0:R (hpOf w) a0_a.g.tiles [v0]) (h1:R (hpOf w) a0_a.bs [v1]) (h2:R (hpOf w) a0_a.us [v2]) (h3:R (hpOf w) a1_b.g.tiles [v3]) (h4:R (hpOf w) a1_b.bs [v4]) (h5:R (hpOf w) a1_b.us [v5]) {r:Bool} (H:throngref0_EqWorld a0_a a1_b = some r):Calls Tryz.prog 15 #[.agg #[.int .i64 a0_a.tick,.int .i64 a0_a.players,.int .i64 a0_a.nextid,.int .i64 a0_a.g.w,.int .i64 a0_a.g.h,v0,v1,v2],.agg #[.int .i64 a1_b.tick,.int .i64 a1_b.players,.int .i64 a1_b.nextid,.int .i64 a1_b.g.w,.int .i64 a1_b.g.h,v3,v4,v5]] w fun e w'=>e = .returned (.bool r)∧Ext w w':=by
 have hm0:=R_max h0
 obtain ⟨p0,c0,rfl⟩:=R_form h0
 have hm1:=R_max h1
 obtain ⟨p1,c1,rfl⟩:=R_form h1
 have hm2:=R_max h2
 obtain ⟨p2,c2,rfl⟩:=R_form h2
 have hm3:=R_max h3
 obtain ⟨p3,c3,rfl⟩:=R_form h3
 have hm4:=R_max h4
 obtain ⟨p4,c4,rfl⟩:=R_form h4
 have hm5:=R_max h5
 obtain ⟨p5,c5,rfl⟩:=R_form h5
 unfold throngref0_EqWorld at H
 refine T.enter (args:=[_,_]) (S:=Sat w []) Tryz.func15 rfl rfl (Sat.start w) ?_
 refine T.seq fun K1 hK1=>T.region (RS.solid (Sd.box (cs:=[_,_,_,_,_,_,_,_]) rfl rfl) rfl rfl fun b1=>RS.solid (Sd.box (cs:=[_,_,_,_,_,_,_,_]) rfl rfl) rfl rfl fun b2=>rA rfl (RS.nil (hK1 _ _ (cq [(2,_),(3,_)] ?_))))
 refine T.seq fun K2 hK2=>T.region (rp (Pu.fieldAddr fd52_0 rfl) (rq (Qt.ldB 0 ty3 rfl rfl rfl) (rp (Pu.fieldAddr fd52_0 rfl) (rq (Qt.ldB 1 ty3 rfl rfl rfl) (rp (Pu.bin rfl rfl rfl) (rM rfl ?_))))))
 refine RS.joinV 6 16 (.bool (decide ((a0_a.tick = a1_b.tick)∧(a0_a.players = a1_b.players)))) [(2,_),(3,_)] ⟨rfl,rfl,trivial⟩ ?_ ?_
 ·refine rM rfl ?_
  refine RS.joinV 6 23 (.bool (decide (((a0_a.tick = a1_b.tick)∧(a0_a.players = a1_b.players))∧(a0_a.nextid = a1_b.nextid)))) [(2,_),(3,_)] ⟨rfl,rfl,trivial⟩ ?_ ?_
  ·refine rM rfl ?_
   refine RS.joinB H 6 30 (fun b9=>.bool b9) [(2,_),(3,_)] ⟨rfl,rfl,trivial⟩ ?_ ?_
   ·intro b9 H
    refine rM rfl ?_
    refine RS.joinB H 6 37 (fun b12=>.bool b12) [(2,_),(3,_)] ⟨rfl,rfl,trivial⟩ ?_ ?_
    ·intro b12 H
     refine rM rfl ?_
     refine RS.joinB H 6 44 (fun b15=>.bool b15) [] trivial ?_ ?_
     ·intro b15 H
      refine rA rfl (RS.nil (hK2 _ _ ?_))
      obtain rfl:=sj H
      refine T.rt (Cont.ret1 rfl rfl fun w' s=>?_)
      exact ⟨rfl,s.ext⟩
     ·intro z16 H hJ14
      refine RS.split 38 rfl (fun hc13=>?_) (fun hc13=>?_)
      ·have H:=ifT hc13 H
       refine rp (Pu.fieldAddr fd52_5 rfl) (rq (Qt.ldB 0 ty50 rfl rfl rfl) (rp (Pu.fieldAddr fd52_5 rfl) (rq (Qt.ldB 1 ty50 rfl rfl rfl) ?_)))
       obtain ⟨x17,hx17,H⟩:=bindE H
       refine rq (Qt.call (vs:=[.slice p2 a0_a.us.length c2,.slice p5 a1_b.us.length c5]) ent35 rfl fun w s=>throngref0_EqUnits_walk a0_a.us a1_b.us w ((Rd.base h2) w s) ((Rd.base h5) w s) hx17) (rp (Pu.pickT rfl rfl) ?_)
       obtain rfl:=sj H
       exact hJ14 _ _ ⟨rfl,trivial⟩ (fun w s=>s)
      ·have H:=ifB hc13 H
       refine ro (ro (ro (ro (ro (rp (Pu.pickF rfl rfl) ?_)))))
       obtain rfl:=sj H
       exact hJ14 _ _ ⟨rfl,trivial⟩ (fun w s=>s)
    ·intro z18 H hJ11
     refine RS.split 31 rfl (fun hc10=>?_) (fun hc10=>?_)
     ·have H:=ifT hc10 H
      refine rp (Pu.fieldAddr fd52_4 rfl) (rq (Qt.ldB 0 ty49 rfl rfl rfl) (rp (Pu.fieldAddr fd52_4 rfl) (rq (Qt.ldB 1 ty49 rfl rfl rfl) ?_)))
      obtain ⟨x19,hx19,H⟩:=bindE H
      refine rq (Qt.call (vs:=[.slice p1 a0_a.bs.length c1,.slice p4 a1_b.bs.length c4]) ent34 rfl fun w s=>throngref0_EqBuildings_walk a0_a.bs a1_b.bs w ((Rd.base h1) w s) ((Rd.base h4) w s) hx19) (rp (Pu.pickT rfl rfl) ?_)
      obtain rfl:=sj H
      exact hJ11 _ _ ⟨rfl,rfl,rfl,trivial⟩ (fun w s=>s)
     ·have H:=ifB hc10 H
      refine ro (ro (ro (ro (ro (rp (Pu.pickF rfl rfl) ?_)))))
      obtain rfl:=sj H
      exact hJ11 _ _ ⟨rfl,rfl,rfl,trivial⟩ (fun w s=>s)
   ·intro z20 H hJ8
    refine RS.splitP 24 rfl (fun hc7=>?_) (fun hc7=>?_)
    ·have H:=ifT hc7 H
     refine rp (Pu.fieldAddr fd52_3 rfl) (rq (Qt.ldBA (us:=[_,_,_]) 0 ty24 rfl rfl rfl rfl) (rp (Pu.fieldAddr fd52_3 rfl) (rq (Qt.ldBA (us:=[_,_,_]) 1 ty24 rfl rfl rfl rfl) ?_)))
     obtain ⟨x21,hx21,H⟩:=bindE H
     refine rq (Qt.call (vs:=[.agg #[.int .i64 a0_a.g.w,.int .i64 a0_a.g.h,.slice p0 a0_a.g.tiles.length c0],.agg #[.int .i64 a1_b.g.w,.int .i64 a1_b.g.h,.slice p3 a1_b.g.tiles.length c3]]) ent33 rfl fun w s=>throngref0_EqGround_walk a0_a.g a1_b.g w ((Rd.base h0) w s) ((Rd.base h3) w s) hx21) (rp (Pu.pickT rfl rfl) ?_)
     obtain rfl:=sj H
     exact hJ8 _ _ ⟨rfl,rfl,rfl,trivial⟩ (fun w s=>s)
    ·have H:=ifF hc7 H
     refine ro (ro (ro (ro (ro (rp (Pu.pickF rfl rfl) ?_)))))
     obtain rfl:=sj H
     exact hJ8 _ _ ⟨rfl,rfl,rfl,trivial⟩ (fun w s=>s)
  ·intro hJ6
   refine RS.splitP 17 rfl (fun hc5=>?_) (fun hc5=>?_)
   ·refine rp (Pu.fieldAddr fd52_2 rfl) (rq (Qt.ldB 0 ty3 rfl rfl rfl) (rp (Pu.fieldAddr fd52_2 rfl) (rq (Qt.ldB 1 ty3 rfl rfl rfl) (rp (Pu.bin rfl rfl rfl) (rp (Pu.pickT rfl rfl) ?_)))))
    exact hJ6 _ _ ⟨dAndT hc5,rfl,rfl,trivial⟩ (fun w s=>s)
   ·refine ro (ro (ro (ro (ro (rp (Pu.pickF rfl rfl) ?_)))))
    exact hJ6 _ _ ⟨dAndF hc5,rfl,rfl,trivial⟩ (fun w s=>s)
 ·intro hJ4
  refine RS.splitP 10 rfl (fun hc3=>?_) (fun hc3=>?_)
  ·refine rp (Pu.fieldAddr fd52_1 rfl) (rq (Qt.ldB 0 ty3 rfl rfl rfl) (rp (Pu.fieldAddr fd52_1 rfl) (rq (Qt.ldB 1 ty3 rfl rfl rfl) (rp (Pu.bin rfl rfl rfl) (rp (Pu.pickT rfl rfl) ?_)))))
   exact hJ4 _ _ ⟨dAndT hc3,rfl,rfl,trivial⟩ (fun w s=>s)
  ·refine ro (ro (ro (ro (ro (rp (Pu.pickF rfl rfl) ?_)))))
   exact hJ4 _ _ ⟨dAndF hc3,rfl,rfl,trivial⟩ (fun w s=>s)
theorem throngtop_num_walk (a0_e:Int) (w:World) {r:Int} (H:throngtop_num a0_e = some r):Calls Tryz.prog 12 #[.int .i64 a0_e] w fun e w'=>e = .returned (.int .i64 r)∧Ext w w':=by
 unfold throngtop_num at H
 refine T.enter (args:=[_]) (S:=Sat w []) Tryz.func12 rfl rfl (Sat.start w) ?_
 refine T.seq fun K1 hK1=>T.region (rA rfl (RS.nil (hK1 _ _ ?_)))
 refine T.seq fun K2 hK2=>T.region (rM rfl (rA rfl (RS.nil (hK2 _ _ ?_))))
 obtain rfl:=sj H
 refine T.rt (Cont.ret1 rfl rfl fun w' s=>?_)
 exact ⟨rfl,s.ext⟩
theorem throngtop_may_walk (a0_p:Scr30) (w:World) {v0 v1:Value} (h0:R (hpOf w) a0_p.g.tiles [v0]) (h1:R (hpOf w) a0_p.l [v1]) {r:Bool} (H:throngtop_may a0_p = some r):Calls Tryz.prog 8 #[.agg #[.int .i64 a0_p.g.w,.int .i64 a0_p.g.h,v0,.int .i64 a0_p.players,.int .i64 a0_p.delay,.int .i64 a0_p.room,v1]] w fun e w'=>e = .returned (.bool r)∧Ext w w':=by
 have hm0:=R_max h0
 obtain ⟨p0,c0,rfl⟩:=R_form h0
 have hm1:=R_max h1
 obtain ⟨p1,c1,rfl⟩:=R_form h1
 unfold throngtop_may at H
 refine T.enter (args:=[_]) (S:=Sat w []) Tryz.func8 rfl rfl (Sat.start w) ?_
 refine T.seq fun K1 hK1=>T.region (RS.solid (Sd.box (cs:=[_,_,_,_,_,_,_]) rfl rfl) rfl rfl fun b1=>rA rfl (RS.nil (hK1 _ _ ?_)))
 refine T.seq fun K2 hK2=>T.region (rq (Qt.ldBA (us:=[_,_,_,_,_,_,_]) 0 ty27 rfl rfl rfl rfl) ?_)
 obtain ⟨x2,hx2,H⟩:=bindE H
 refine rq (Qt.call (vs:=[.agg #[.int .i64 a0_p.g.w,.int .i64 a0_p.g.h,.slice p0 a0_p.g.tiles.length c0,.int .i64 a0_p.players,.int .i64 a0_p.delay,.int .i64 a0_p.room,.slice p1 a0_p.l.length c1]]) ent27 rfl fun w s=>thronglaw30_Heavy_walk a0_p w ((Rd.base h0) w s) ((Rd.base h1) w s) hx2) (rp (Pu.not rfl) (rM rfl ?_))
 refine RS.joinB H 4 10 (fun b5=>.bool b5) [(1,_),(2,_)] ⟨rfl,rfl,trivial⟩ ?_ ?_
 ·intro b5 H
  refine rM rfl ?_
  refine RS.joinV 4 15 (.bool (decide ((b5 = true)∧(1 ≤ a0_p.players)))) [(1,_),(2,_)] ⟨rfl,rfl,trivial⟩ ?_ ?_
  ·refine rM rfl ?_
   refine RS.joinV 4 20 (.bool (decide (((b5 = true)∧(1 ≤ a0_p.players))∧(a0_p.players ≤ 8)))) [(1,_),(2,_)] ⟨rfl,rfl,trivial⟩ ?_ ?_
   ·refine rM rfl ?_
    refine RS.joinV 4 25 (.bool (decide ((((b5 = true)∧(1 ≤ a0_p.players))∧(a0_p.players ≤ 8))∧(1 ≤ a0_p.delay)))) [(1,_),(2,_)] ⟨rfl,rfl,trivial⟩ ?_ ?_
    ·refine rM rfl ?_
     refine RS.joinV 4 30 (.bool (decide (((((b5 = true)∧(1 ≤ a0_p.players))∧(a0_p.players ≤ 8))∧(1 ≤ a0_p.delay))∧(a0_p.delay ≤ 8)))) [(1,_),(2,_)] ⟨rfl,rfl,trivial⟩ ?_ ?_
     ·refine rM rfl ?_
      refine RS.joinB H 4 35 (fun b16=>.bool b16) [(2,_)] ⟨rfl,trivial⟩ ?_ ?_
      ·intro b16 H
       refine rA rfl (RS.nil (hK2 _ _ ?_))
       obtain rfl:=sj H
       refine T.rt (Cont.ret1 rfl rfl fun w' s=>?_)
       exact ⟨rfl,s.ext⟩
      ·intro z17 H hJ15
       refine RS.splitP 31 rfl (fun hc14=>?_) (fun hc14=>?_)
       ·have H:=ifT hc14 H
        refine rp (Pu.fieldAddr fd27_3 rfl) (rq (Qt.ldB 0 ty3 rfl rfl rfl) ?_)
        obtain ⟨x18,hx18,H⟩:=bindE H
        refine rq (Qt.call (vs:=[.int .i64 a0_p.room]) ent28 rfl fun w s=>throngref15_Room_walk a0_p.room w  hx18) (rp (Pu.pickT rfl rfl) ?_)
        obtain rfl:=sj H
        exact hJ15 _ _ ⟨rfl,rfl,trivial⟩ (fun w s=>s)
       ·have H:=ifF hc14 H
        refine ro (ro (ro (rp (Pu.pickF rfl rfl) ?_)))
        obtain rfl:=sj H
        exact hJ15 _ _ ⟨rfl,rfl,trivial⟩ (fun w s=>s)
     ·intro hJ13
      refine RS.splitP 26 rfl (fun hc12=>?_) (fun hc12=>?_)
      ·refine rp (Pu.fieldAddr fd27_2 rfl) (rq (Qt.ldB 0 ty3 rfl rfl rfl) (rp (Pu.bin rfl rfl rfl) (rp (Pu.pickT rfl rfl) ?_)))
       exact hJ13 _ _ ⟨dAndT hc12,rfl,rfl,trivial⟩ (fun w s=>s)
      ·refine ro (ro (ro (rp (Pu.pickF rfl rfl) ?_)))
       exact hJ13 _ _ ⟨dAndF hc12,rfl,rfl,trivial⟩ (fun w s=>s)
    ·intro hJ11
     refine RS.splitP 21 rfl (fun hc10=>?_) (fun hc10=>?_)
     ·refine rp (Pu.fieldAddr fd27_2 rfl) (rq (Qt.ldB 0 ty3 rfl rfl rfl) (rp (Pu.bin rfl rfl rfl) (rp (Pu.pickT rfl rfl) ?_)))
      exact hJ11 _ _ ⟨dAndT hc10,rfl,rfl,trivial⟩ (fun w s=>s)
     ·refine ro (ro (ro (rp (Pu.pickF rfl rfl) ?_)))
      exact hJ11 _ _ ⟨dAndF hc10,rfl,rfl,trivial⟩ (fun w s=>s)
   ·intro hJ9
    refine RS.splitP 16 rfl (fun hc8=>?_) (fun hc8=>?_)
    ·refine rp (Pu.fieldAddr fd27_1 rfl) (rq (Qt.ldB 0 ty3 rfl rfl rfl) (rp (Pu.bin rfl rfl rfl) (rp (Pu.pickT rfl rfl) ?_)))
     exact hJ9 _ _ ⟨dAndT hc8,rfl,rfl,trivial⟩ (fun w s=>s)
    ·refine ro (ro (ro (rp (Pu.pickF rfl rfl) ?_)))
     exact hJ9 _ _ ⟨dAndF hc8,rfl,rfl,trivial⟩ (fun w s=>s)
  ·intro hJ7
   refine RS.split 11 rfl (fun hc6=>?_) (fun hc6=>?_)
   ·refine rp (Pu.fieldAddr fd27_1 rfl) (rq (Qt.ldB 0 ty3 rfl rfl rfl) (rp (Pu.bin rfl rfl rfl) (rp (Pu.pickT rfl rfl) ?_)))
    exact hJ7 _ _ ⟨dAndT hc6,rfl,rfl,trivial⟩ (fun w s=>s)
   ·refine ro (ro (ro (rp (Pu.pickF rfl rfl) ?_)))
    exact hJ7 _ _ ⟨dAndF (bne_of hc6),rfl,rfl,trivial⟩ (fun w s=>s)
 ·intro z19 H hJ4
  refine RS.split 6 rfl (fun hc3=>?_) (fun hc3=>?_)
  ·have H:=ifT hc3 H
   refine rp (Pu.fieldAddr fd27_0 rfl) (rq (Qt.ldBA (us:=[_,_,_]) 0 ty24 rfl rfl rfl rfl) ?_)
   obtain ⟨x20,hx20,H⟩:=bindE H
   refine rq (Qt.call (vs:=[.agg #[.int .i64 a0_p.g.w,.int .i64 a0_p.g.h,.slice p0 a0_p.g.tiles.length c0]]) ent16 rfl fun w s=>throngref5_Ground_walk a0_p.g w ((Rd.base h0) w s) hx20) (rp (Pu.pickT rfl rfl) ?_)
   obtain rfl:=sj H
   exact hJ4 _ _ ⟨rfl,rfl,rfl,trivial⟩ (fun w s=>s)
  ·have H:=ifB hc3 H
   refine ro (ro (ro (rp (Pu.pickF rfl rfl) ?_)))
   obtain rfl:=sj H
   exact hJ4 _ _ ⟨rfl,rfl,rfl,trivial⟩ (fun w s=>s)
theorem throngtop_wakes_walk (w:World) {r:Bool} (H:throngtop_wakes = some r):Calls Tryz.prog 13 #[] w fun e w'=>e = .returned (.bool r)∧Ext w w':=by
 unfold throngtop_wakes at H
 refine T.enter (args:=[]) (S:=Sat w []) Tryz.func13 rfl rfl (Sat.start w) ?_
 refine T.seq fun K1 hK1=>T.region (rA rfl (RS.nil (hK1 _ _ ?_)))
 refine T.seq fun K2 hK2=>T.region (RS.solid (Sd.litS (cs:=[_]) sl22 zr5 rfl rfl rfl rfl rfl) rfl rfl fun b1=>?_)
 refine RS.weakS (fun w s=>s.litRow (α:=UInt8) (n:=1) 0 [(0:UInt8)] rfl (by decide) rfl ⟨[_],_,rfl,rfl,rfl⟩) ?_
 refine rp (Pu.build (cells:=[_,_,_]) st24 rfl rfl) (rp (Pu.build (cells:=[_,_,_,_,_]) st31 rfl rfl) (RS.solid (Sd.litS (cs:=[_,_,_,_,_]) sl25 zr31 rfl rfl rfl rfl rfl) rfl rfl fun b2=>?_))
 refine RS.weakS (S':=Sat w [row nilH 5 (rowV (some b1,1) 1) [(0:UInt8)],drow 31 (rowV (some b2,1) 1) ([(⟨2,1,0,0,[]⟩:Act)]:List Act),dead,dead,dead]) (fun w s=>(Sat.litRowG (α:=Act) (m:=1) 1 4 ([(⟨2,1,0,0,[]⟩:Act)]:List Act) (Sat.starAt 4 2 (Sat.starAt 4 3 (((s.noStars).noStars).nilRowG (α:=Cmd) 37) rfl rfl (by decide)) rfl rfl (by decide)) rfl rfl (by decide) (by decide) rfl (DRF.cons' (α:=Act) (x:=(⟨2,1,0,0,[]⟩:Act)) (fun _ h=>⟨_,rfl,h⟩) DRF.nil'))) ?_
 obtain ⟨x3,hx3,H⟩:=bindE H
 refine RS.solid (Sd.callN (vs:=[.agg #[.int .i64 1,.int .i64 1,rowV (some b1,1) 1],.int .i64 1,.int .i64 1,.int .i64 1,rowV (some b2,1) 1]) ent11 rfl (fun w s=>session_Run_walk (⟨1,1,[(0:UInt8)]⟩:Grd) 1 1 1 ([(⟨2,1,0,0,[]⟩:Act)]:List Act) w ((Rd.ofRowN 0 rfl) w s) ((Rd.ofG 1 rfl) w s) hx3)) rfl rfl fun ⟨q4,q5,q6,q7,q8⟩=>?_
 refine rM rfl (rp (Pu.extract rfl rfl) (rp (Pu.extract rfl rfl) (RS.solid (Sd.alloc zr44 rfl) rfl rfl fun b9=>RS.solid (Sd.stB (cs':=[_,_,_,_,_]) 10 ty44 rfl rfl rfl rfl rfl rfl rfl rfl) rfl rfl fun _=>rA rfl (RS.nil (hK2 _ _ (cq [(1,_),(2,_)] ?_))))))
 refine T.seq fun K3 hK3=>?_
 try dsimp only [List.set,List.cons_append,List.nil_append]
 refine T.region (rM rfl ?_)
 obtain ⟨x10,hx10,H⟩:=bindE H
 refine rq (Qt.call (vs:=[.int .i64 x3.2]) ent12 rfl fun w s=>throngtop_num_walk x3.2 w  hx10) (rp (Pu.bin rfl rfl rfl) (rM rfl ?_))
 refine RS.joinV 5 19 (.bool (decide ((x10 = 0)∧((x3.1.turns.length:Int) = 1)))) [(1,_)] ⟨rfl,trivial⟩ ?_ ?_
 ·refine rM rfl ?_
  obtain ⟨g15,H⟩:=gdE H
  refine RS.joinV 6 26 (.bool (decide (((x10 = 0)∧((x3.1.turns.length:Int) = 1))∧((gi x3.1.turns (0:Int)) = 1)))) [] trivial ?_ ?_
  ·refine rA rfl (RS.nil (hK3 _ _ ?_))
   obtain rfl:=sj H
   try dsimp only [List.set,List.cons_append,List.nil_append]
   refine T.rt (Cont.ret1 rfl rfl fun w' s=>?_)
   exact ⟨rfl,s.ext⟩
  ·intro hJ14
   refine RS.splitP 20 rfl (fun hc13=>?_) (fun hc13=>?_)
   ·refine rp (Pu.fieldAddr fd44_0 rfl) (rq (Qt.ldB 10 ty35 rfl rfl rfl) ?_)
    refine RS.know (p:=∃ g cap,q4 = (some g,cap)) (fun w s=>(s.row_some (k:=5) rfl (pos_of (g15 hc13)))) ?_
    rintro ⟨gg16,cc17,rfl⟩
    refine rp (Pu.indexSl sl35 rfl rfl (g15 hc13)) (rq (Qt.ld0 (α:=Int) (Rd.ofRowN 5 rfl) ty3 rfl rfl (g15 hc13) (by rintro _ _ rfl; rfl)) (rp (Pu.bin rfl rfl rfl) (rp (Pu.pickT rfl rfl) ?_)))
    exact hJ14 _ _ ⟨dAndT hc13,trivial⟩ (fun w s=>s)
   ·refine ro (ro (ro (ro (ro (rp (Pu.pickF rfl rfl) ?_)))))
    exact hJ14 _ _ ⟨dAndF hc13,trivial⟩ (fun w s=>s)
 ·intro hJ12
  refine RS.splitP 14 rfl (fun hc11=>?_) (fun hc11=>?_)
  ·refine rp (Pu.fieldAddr fd44_0 rfl) (rq (Qt.ldB 10 ty35 rfl rfl rfl) (rp (Pu.lenSl sl35 rfl) (rp (Pu.bin rfl rfl rfl) (rp (Pu.pickT rfl rfl) ?_))))
   exact hJ12 _ _ ⟨dAndT hc11,rfl,trivial⟩ (fun w s=>s)
  ·refine ro (ro (ro (ro (rp (Pu.pickF rfl rfl) ?_))))
   exact hJ12 _ _ ⟨dAndF hc11,rfl,trivial⟩ (fun w s=>s)
end Go.Proofs.YtmngdgclldkcfaaGreat
set_option linter.unusedVariables false
set_option linter.unusedSimpArgs false
set_option maxRecDepth 20000
set_option maxHeartbeats 4000000
namespace Go.Proofs.YtmngdgclldkcfaaGreat
open Go.Vg
open Enc (R)
theorem ent13:Ent Tryz.prog 13:=⟨_,_,Tryz.func13,by kernel_rfl,rfl⟩
theorem ent15:Ent Tryz.prog 15:=⟨_,_,Tryz.func15,by kernel_rfl,rfl⟩
theorem ent8:Ent Tryz.prog 8:=⟨_,_,Tryz.func8,by kernel_rfl,rfl⟩
theorem throngtop_TopQuiet_walk (a0_p:Scr30) (w:World) {v0 v1:Value} (h0:R (hpOf w) a0_p.g.tiles [v0]) (h1:R (hpOf w) a0_p.l [v1]) {r:Bool} (H:throngtop_TopQuiet a0_p = some r):Calls Tryz.prog 4 #[.agg #[.int .i64 a0_p.g.w,.int .i64 a0_p.g.h,v0,.int .i64 a0_p.players,.int .i64 a0_p.delay,.int .i64 a0_p.room,v1]] w fun e w'=>e = .returned (.bool r)∧Ext w w':=by
 have hm0:=R_max h0
 obtain ⟨p0,c0,rfl⟩:=R_form h0
 have hm1:=R_max h1
 obtain ⟨p1,c1,rfl⟩:=R_form h1
 unfold throngtop_TopQuiet at H
 refine T.enter (args:=[_]) (S:=Sat w []) Tryz.func4 rfl rfl (Sat.start w) ?_
 refine T.seq fun K1 hK1=>T.region (RS.solid (Sd.box (cs:=[_,_,_,_,_,_,_]) rfl rfl) rfl rfl fun b1=>rA rfl (RS.nil (hK1 _ _ ?_)))
 refine T.seq fun K2 hK2=>T.seq fun K3 hK3=>T.region (rq (Qt.ldBA (us:=[_,_,_,_,_,_,_]) 0 ty27 rfl rfl rfl rfl) ?_)
 obtain ⟨x2,hx2,H⟩:=bindE H
 refine rq (Qt.call (vs:=[.agg #[.int .i64 a0_p.g.w,.int .i64 a0_p.g.h,.slice p0 a0_p.g.tiles.length c0,.int .i64 a0_p.players,.int .i64 a0_p.delay,.int .i64 a0_p.room,.slice p1 a0_p.l.length c1]]) ent8 rfl fun w s=>throngtop_may_walk a0_p w ((Rd.base h0) w s) ((Rd.base h1) w s) hx2) (rp (Pu.not rfl) (rM rfl ?_))
 refine RS.joinV 4 18 (.bool (decide (((!x2) = true) ∨ (4 < a0_p.players)))) [(1,_)] ⟨rfl,trivial⟩ ?_ ?_
 ·refine RS.nil (hK3 _ _ ?_)
  refine T.condP rfl (fun hc5=>?_) (fun hc5=>?_)
  ·have H:=ifT hc5 H
   refine T.seq fun K4 hK4=>T.region (rA rfl (RS.nil (hK4 _ _ ?_)))
   obtain rfl:=sj H
   refine T.rt (Cont.ret1 rfl rfl fun w' s=>?_)
   exact ⟨rfl,s.ext⟩
  ·have H:=ifF hc5 H
   refine T.skip (hK2 _ _ ?_)
   refine T.seq fun K5 hK5=>T.region (rA rfl (RS.nil (hK5 _ _ ?_)))
   refine T.seq fun K6 hK6=>T.seq fun K7 hK7=>T.region (rA rfl (RS.nil (hK7 _ _ ?_)))
   refine T.joinE (σ:=List Act) (γ:=(Option Nat × Nat)) H (fun s=>s) [(1,_)] ⟨rfl,trivial⟩ (fun v7 q8=>[(3,rowV q8 v7.length)]) (fun v7 q8=>Sat w [blk b1 [.int .i64 a0_p.g.w,.int .i64 a0_p.g.h,.slice p0 a0_p.g.tiles.length c0,.int .i64 a0_p.players,.int .i64 a0_p.delay,.int .i64 a0_p.room,.slice p1 a0_p.l.length c1] 27,drow 31 (rowV q8 v7.length) v7]) ?_ ?_
   ·rintro v7 q8 H
    try dsimp only [Ex.then] at H
    refine Cont.conseq (fr':=[(3,_),(1,_)]) ?_ ⟨rfl,rfl,trivial⟩ (fun _ s=>s)
    refine id (hK6 _ _ ?_)
    refine T.seq fun K8 hK8=>T.region (rp (Pu.fieldAddr fd27_0 rfl) (rq (Qt.ldBA (us:=[_,_,_]) 0 ty24 rfl rfl rfl rfl) (rp (Pu.fieldAddr fd27_1 rfl) (rq (Qt.ldB 0 ty3 rfl rfl rfl) (rp (Pu.fieldAddr fd27_2 rfl) (rq (Qt.ldB 0 ty3 rfl rfl rfl) (rp (Pu.fieldAddr fd27_3 rfl) (rq (Qt.ldB 0 ty3 rfl rfl rfl) (rM rfl ?_)))))))))
    obtain ⟨x9,hx9,H⟩:=bindE H
    refine RS.solid (Sd.callN (vs:=[.agg #[.int .i64 a0_p.g.w,.int .i64 a0_p.g.h,.slice p0 a0_p.g.tiles.length c0],.int .i64 a0_p.players,.int .i64 a0_p.delay,.int .i64 a0_p.room,rowV q8 v7.length]) ent11 rfl (fun w s=>session_Run_walk a0_p.g a0_p.players a0_p.delay a0_p.room v7 w ((Rd.base h0) w s) ((Rd.ofG 1 rfl) w s) hx9)) rfl rfl fun ⟨q10,q11,q12,q13,q14⟩=>?_
    refine rM rfl (rp (Pu.extract rfl rfl) (rp (Pu.extract rfl rfl) (RS.solid (Sd.alloc zr44 rfl) rfl rfl fun b15=>RS.solid (Sd.stB (cs':=[_,_,_,_,_]) 7 ty44 rfl rfl rfl rfl rfl rfl rfl rfl) rfl rfl fun _=>rA rfl (RS.nil (hK8 _ _ (cq [(1,_),(6,_),(7,_)] ?_))))))
    refine T.seq fun K9 hK9=>?_
    try dsimp only [List.set,List.cons_append,List.nil_append]
    refine T.region (rp (Pu.fieldAddr fd27_0 rfl) (rq (Qt.ldBA (us:=[_,_,_]) 0 ty24 rfl rfl rfl rfl) (rp (Pu.fieldAddr fd27_1 rfl) (rq (Qt.ldB 0 ty3 rfl rfl rfl) ?_))))
    obtain ⟨x16,hx16,H⟩:=bindE H
    refine RS.solid (Sd.callN (vs:=[.agg #[.int .i64 a0_p.g.w,.int .i64 a0_p.g.h,.slice p0 a0_p.g.tiles.length c0],.int .i64 a0_p.players]) ent14 rfl (fun w s=>world_New_walk a0_p.g a0_p.players w ((Rd.base h0) w s) hx16)) rfl rfl fun ⟨q17,q18,q19⟩=>?_
    refine rM rfl (rp (Pu.extract rfl rfl) (rp (Pu.extract rfl rfl) (RS.solid (Sd.alloc zr52 rfl) rfl rfl fun b20=>RS.solid (Sd.stB (cs':=[_,_,_,_,_,_,_,_]) 11 ty52 rfl rfl rfl rfl rfl rfl rfl rfl) rfl rfl fun _=>rA rfl (RS.nil (hK9 _ _ (cq [(1,_),(6,_),(7,_),(8,_),(9,_)] ?_))))))
    refine T.seq fun K10 hK10=>T.seq fun K11 hK11=>?_
    try dsimp only [List.set,List.cons_append,List.nil_append]
    refine T.region (rM rfl ?_)
    obtain ⟨x21,hx21,H⟩:=bindE H
    refine rq (Qt.call (vs:=[.int .i64 x9.2]) ent12 rfl fun w s=>throngtop_num_walk x9.2 w  hx21) (rp (Pu.bin rfl rfl rfl) (rM rfl ?_))
    refine RS.joinB H 4 66 (fun b24=>.bool b24) [(1,_),(6,_),(8,_)] ⟨rfl,rfl,rfl,trivial⟩ ?_ ?_
    ·intro b24 H
     refine rM rfl ?_
     refine RS.joinV 7 74 (.bool (decide ((b24 = true) ∨ (¬ (x9.1.worlds.length:Int) = a0_p.players)))) [(1,_),(6,_),(8,_)] ⟨rfl,rfl,rfl,trivial⟩ ?_ ?_
     ·refine rM rfl ?_
      refine RS.joinV 7 82 (.bool (decide (((b24 = true) ∨ (¬ (x9.1.worlds.length:Int) = a0_p.players)) ∨ (¬ (x9.1.turns.length:Int) = a0_p.players)))) [(1,_),(6,_),(8,_)] ⟨rfl,rfl,rfl,trivial⟩ ?_ ?_
      ·refine RS.nil (hK11 _ _ ?_)
       refine T.condP rfl (fun hc29=>?_) (fun hc29=>?_)
       ·have H:=ifT hc29 H
        refine cq [] ?_
        refine T.seq fun K12 hK12=>T.region (rA rfl (RS.nil (hK12 _ _ ?_)))
        obtain rfl:=sj H
        try dsimp only [List.set,List.cons_append,List.nil_append]
        refine T.rt (Cont.ret1 rfl rfl fun w' s=>?_)
        exact ⟨rfl,s.ext⟩
       ·have H:=ifF hc29 H
        refine T.skip (hK10 _ _ ?_)
        refine T.seq fun K13 hK13=>T.seq fun K14 hK14=>T.region (rA rfl (RS.nil (hK14 _ _ ?_)))
        refine T.joinE (σ:=Int) (γ:=Unit) H Ex.go [] trivial (fun v31 _=>[]) (fun v31 _=>Sat w [blk b1 [.int .i64 a0_p.g.w,.int .i64 a0_p.g.h,.slice p0 a0_p.g.tiles.length c0,.int .i64 a0_p.players,.int .i64 a0_p.delay,.int .i64 a0_p.room,.slice p1 a0_p.l.length c1] 27,drow 31 (rowV q8 v7.length) v7,row nilH 3 (rowV q10 x9.1.turns.length) x9.1.turns,drow 87 (rowV q11 x9.1.hashes.length) x9.1.hashes,drow 52 (rowV q12 x9.1.worlds.length) x9.1.worlds,row nilH 4 (rowV q13 x9.1.splits.length) x9.1.splits,drow 200 (rowV q14 x9.1.log.length) x9.1.log,blk b15 [rowV q10 x9.1.turns.length,rowV q11 x9.1.hashes.length,rowV q12 x9.1.worlds.length,rowV q13 x9.1.splits.length,rowV q14 x9.1.log.length] 44,row nilH 5 (rowV q17 x16.1.g.tiles.length) x16.1.g.tiles,row nilH 135 (rowV q18 x16.1.bs.length) x16.1.bs,row nilH 54 (rowV q19 x16.1.us.length) x16.1.us,blk b20 [.int .i64 v31,.int .i64 x16.1.players,.int .i64 x16.1.nextid,.int .i64 x16.1.g.w,.int .i64 x16.1.g.h,rowV q17 x16.1.g.tiles.length,rowV q18 x16.1.bs.length,rowV q19 x16.1.us.length] 52]) ?_ ?_
        ·rintro v31 ⟨⟩ H
         try dsimp only [Ex.then] at H
         refine Cont.conseq (fr':=[]) ?_ trivial (fun _ s=>s)
         refine id (hK13 _ _ ?_)
         refine T.seq fun K15 hK15=>?_
         try dsimp only [List.set,List.cons_append,List.nil_append]
         refine T.region ?_
         obtain ⟨x32,hx32,H⟩:=bindE H
         refine rq (Qt.call (vs:=[]) ent13 rfl fun w s=>throngtop_wakes_walk  w  hx32) (rA rfl (RS.nil (hK15 _ _ ?_)))
         obtain rfl:=sj H
         try dsimp only [List.set,List.cons_append,List.nil_append]
         refine T.rt (Cont.ret1 rfl rfl fun w' s=>?_)
         exact ⟨rfl,s.ext⟩
        ·intro z30 hz30 HX30 hJ30
         refine T.block ?_
         refine T.loopA (γ:=Unit) hz30 [(1,_),(6,_),(8,_)] (fun (v33,v34) _=>[(10,.int .i64 v33)]) (fun (v33,v34) _=>Sat w [blk b1 [.int .i64 a0_p.g.w,.int .i64 a0_p.g.h,.slice p0 a0_p.g.tiles.length c0,.int .i64 a0_p.players,.int .i64 a0_p.delay,.int .i64 a0_p.room,.slice p1 a0_p.l.length c1] 27,drow 31 (rowV q8 v7.length) v7,row nilH 3 (rowV q10 x9.1.turns.length) x9.1.turns,drow 87 (rowV q11 x9.1.hashes.length) x9.1.hashes,drow 52 (rowV q12 x9.1.worlds.length) x9.1.worlds,row nilH 4 (rowV q13 x9.1.splits.length) x9.1.splits,drow 200 (rowV q14 x9.1.log.length) x9.1.log,blk b15 [rowV q10 x9.1.turns.length,rowV q11 x9.1.hashes.length,rowV q12 x9.1.worlds.length,rowV q13 x9.1.splits.length,rowV q14 x9.1.log.length] 44,row nilH 5 (rowV q17 x16.1.g.tiles.length) x16.1.g.tiles,row nilH 135 (rowV q18 x16.1.bs.length) x16.1.bs,row nilH 54 (rowV q19 x16.1.us.length) x16.1.us,blk b20 [.int .i64 v34,.int .i64 x16.1.players,.int .i64 x16.1.nextid,.int .i64 x16.1.g.w,.int .i64 x16.1.g.h,rowV q17 x16.1.g.tiles.length,rowV q18 x16.1.bs.length,rowV q19 x16.1.us.length] 52]) () ⟨rfl,rfl,rfl,trivial⟩ ⟨rfl,trivial⟩ (fun w s=>s) ?_
         rintro ⟨v33,v34⟩ ⟨⟩ y35 H hd30 KL30 hL30
         try dsimp only [Ex.then] at H
         refine cq [(10,_),(1,_),(6,_),(8,_)] ?_
         refine T.seq fun K16 hK16=>T.seq fun K17 hK17=>?_
         try dsimp only [List.set,List.cons_append,List.nil_append]
         refine T.region (rM rfl (rp (Pu.fieldAddr fd27_1 rfl) (rq (Qt.ldB 0 ty3 rfl rfl rfl) (rp (Pu.bin rfl rfl rfl) (RS.nil (hK17 _ _ ?_))))))
         refine T.condP rfl (fun hc36=>?_) (fun hc36=>?_)
         ·have H:=ifT hc36 H
          refine T.skip (hK16 _ _ (cq [(1,_),(6,_),(8,_),(10,_)] ?_))
          refine T.seq fun K18 hK18=>T.block (T.seq fun K19 hK19=>?_)
          try dsimp only [List.set,List.cons_append,List.nil_append]
          refine T.region (rp (Pu.fieldAddr fd44_0 rfl) (rq (Qt.ldB 7 ty35 rfl rfl rfl) (rM rfl ?_)))
          obtain ⟨g37,H⟩:=gdE H
          refine RS.know (p:=∃ g cap,q10 = (some g,cap)) (fun w s=>(s.row_some (k:=2) rfl (pos_of g37))) ?_
          rintro ⟨gg38,cc39,rfl⟩
          refine rp (Pu.indexSl sl35 rfl rfl g37) (rq (Qt.ld0 (α:=Int) (Rd.ofRowN 2 rfl) ty3 rfl rfl g37 (by rintro _ _ rfl; rfl)) (rp (Pu.fieldAddr fd52_0 rfl) (RS.solid (Sd.stB (cs':=[_,_,_,_,_,_,_,_]) 11 ty3 rfl rfl rfl rfl rfl rfl rfl rfl) rfl rfl fun _=>RS.nil (hK19 _ _ (cq [(1,_),(6,_),(8,_),(10,_)] ?_)))))
          refine T.seq fun K20 hK20=>?_
          refine T.exP (fun w s=>s.freeze 4 rfl) fun hh40 hz41=>?_
          try dsimp only [List.set,List.cons_append,List.nil_append]
          refine T.drawn (fun _=>True) [(0,.pu),(1,.rd),(2,.pu),(3,.pu),(4,.rd),(5,.pu),(6,.rd),(7,.pu),(8,.pu),(9,.pu),(10,.rd),(11,.pu),(12,.pu),(13,.rd),(14,.rd),(15,.rd),(16,.pu),(17,.pu)] mixed (ClE.sat _ _) (by kernel_rfl) ?_
          refine dp rfl (Pu.fieldAddr fd44_0 rfl) (dq rfl (Qt.ldB 7 ty35 rfl rfl rfl) (dp rfl (Pu.move rfl) ?_))
          obtain ⟨g42,H⟩:=gdE H
          refine dp rfl (Pu.indexSl sl35 rfl rfl g42) (dq rfl (Qt.ld0 (α:=Int) (Rd.ofRowN 2 rfl) ty3 rfl rfl g42 (by rintro _ _ rfl; rfl)) (dp rfl (Pu.fieldAddr fd27_2 rfl) (dq rfl (Qt.ldB 0 ty3 rfl rfl rfl) (dp rfl (Pu.bin rfl rfl rfl) (dp rfl (Pu.move rfl) ?_)))))
          refine RD.joinB H 9 112 (fun b45=>.bool b45) [(1,_),(6,_),(8,_),(10,_)] ⟨rfl,rfl,rfl,rfl,trivial⟩ ?_ ?_
          ·intro b45 H
           refine RD.nil (hK20 _ _ ?_)
           refine T.cond rfl (fun hc46=>?_) (fun hc46=>?_)
           ·have H:=ifT hc46 H
            refine cq [] ?_
            refine T.seq fun K21 hK21=>T.region (rA rfl (RS.nil (hK21 _ _ ?_)))
            obtain rfl:=hd30 _ H
            have H:=HX30
            obtain rfl:=sj H
            try dsimp only [List.set,List.cons_append,List.nil_append]
            refine T.rt (Cont.ret1 rfl rfl fun w' s=>?_)
            exact ⟨rfl,s.ext⟩
           ·have H:=ifB hc46 H
            refine T.skip (hK18 _ _ ?_)
            try dsimp only [List.set,List.cons_append,List.nil_append]
            refine T.region (rM rfl ?_)
            obtain ⟨g47,H⟩:=gdE H
            refine rp (Pu.addS rfl rfl g47) (rA rfl (RS.nil (hL30 _ _ ((v33 + 1),(gi x9.1.turns v33)) () H ⟨rfl,rfl,rfl,trivial⟩ ⟨rfl,trivial⟩ (fun w s=>(Sat.thaw hz41 4 rfl s).pick [0,1,2,3,4,5,6,7,8,9,10,11] (by decide) rfl))))
          ·intro z48 H hJ44
           refine RD.splitP 103 rfl (fun hc43=>?_) (fun hc43=>?_)
           ·have H:=ifT hc43 H
            refine dn rfl (dn rfl (dn rfl (dn rfl (dn rfl (dn rfl (dn rfl (dn rfl (dp rfl (Pu.pickT rfl rfl) ?_))))))))
            obtain rfl:=sj H
            exact hJ44 _ ⟨rfl,rfl,rfl,rfl,rfl,trivial⟩
           ·have H:=ifF hc43 H
            refine dp rfl (Pu.fieldAddr fd44_2 rfl) (dq rfl (Qt.ldB 7 ty40 rfl rfl rfl) (dp rfl (Pu.move rfl) ?_))
            obtain ⟨g49,H⟩:=gdE H
            refine RD.know (p:=∃ g cap,q12 = (some g,cap)) (fun w s=>(row_some' (e:=52) (drow_R hz41) (pos_of g49))) ?_
            rintro ⟨gg50,cc51,rfl⟩
            refine dp rfl (Pu.indexSl sl40 rfl rfl g49) ?_
            obtain ⟨c52,hc53,ha54⟩:=R_el (α:=Wld) (drow_R hz41) g49
            obtain ⟨u55,u56,u57,rfl,hu55,hu56,hu57⟩:=hc53
            obtain ⟨p58,cc59,rfl⟩:=R_form hu55
            obtain ⟨p60,cc61,rfl⟩:=R_form hu56
            obtain ⟨p62,cc63,rfl⟩:=R_form hu57
            refine dq rfl (Qt.ldZ (cs:=[_,_,_,_,_,_,_,_]) ty52 rfl ha54 (Held.fz 4 rfl) rfl) (dq rfl (Qt.ldBA (us:=[_,_,_,_,_,_,_,_]) 11 ty52 rfl rfl rfl rfl) ?_)
            obtain ⟨x64,hx64,H⟩:=bindE H
            refine dq rfl (Qt.call (vs:=[.agg #[.int .i64 (gi x9.1.worlds v33).tick,.int .i64 (gi x9.1.worlds v33).players,.int .i64 (gi x9.1.worlds v33).nextid,.int .i64 (((gi x9.1.worlds v33).g).w),.int .i64 (((gi x9.1.worlds v33).g).h),.slice p58 (((gi x9.1.worlds v33).g).tiles).length cc59,.slice p60 ((gi x9.1.worlds v33).bs).length cc61,.slice p62 ((gi x9.1.worlds v33).us).length cc63],.agg #[.int .i64 (gi x9.1.turns v33),.int .i64 x16.1.players,.int .i64 x16.1.nextid,.int .i64 x16.1.g.w,.int .i64 x16.1.g.h,rowV q17 x16.1.g.tiles.length,rowV q18 x16.1.bs.length,rowV q19 x16.1.us.length]]) ent15 rfl fun w s=>throngref0_EqWorld_walk (gi x9.1.worlds v33) (⟨(gi x9.1.turns v33),x16.1.players,x16.1.nextid,x16.1.g,x16.1.bs,x16.1.us⟩:Wld) w ((Rd.ofFz 4 rfl hu55) w s) ((Rd.ofFz 4 rfl hu56) w s) ((Rd.ofFz 4 rfl hu57) w s) ((Rd.ofRowN 8 rfl) w s) ((Rd.ofRowN 9 rfl) w s) ((Rd.ofRowN 10 rfl) w s) hx64) (dp rfl (Pu.not rfl) (dp rfl (Pu.pickF rfl rfl) ?_))
            obtain rfl:=sj H
            exact hJ44 _ ⟨rfl,rfl,rfl,rfl,rfl,trivial⟩
         ·have H:=ifF hc36 H
          obtain rfl:=hd30 _ H
          refine T.xt (hJ30 _ _ v34 () HX30 trivial trivial (fun w s=>s))
      ·intro hJ28
       refine RS.splitP 75 rfl (fun hc27=>?_) (fun hc27=>?_)
       ·refine ro (ro (ro (ro (ro (ro (rp (Pu.pickT rfl rfl) ?_))))))
        exact hJ28 _ _ ⟨dOrT hc27,rfl,rfl,rfl,trivial⟩ (fun w s=>s)
       ·refine rp (Pu.fieldAddr fd44_0 rfl) (rq (Qt.ldB 7 ty35 rfl rfl rfl) (rp (Pu.lenSl sl35 rfl) (rp (Pu.fieldAddr fd27_1 rfl) (rq (Qt.ldB 0 ty3 rfl rfl rfl) (rp (Pu.bin rfl rfl rfl) (rp (Pu.pickF rfl rfl) ?_))))))
        exact hJ28 _ _ ⟨dOrF hc27,rfl,rfl,rfl,trivial⟩ (fun w s=>s)
     ·intro hJ26
      refine RS.split 67 rfl (fun hc25=>?_) (fun hc25=>?_)
      ·refine ro (ro (ro (ro (ro (ro (rp (Pu.pickT rfl rfl) ?_))))))
       exact hJ26 _ _ ⟨dOrT hc25,rfl,rfl,rfl,trivial⟩ (fun w s=>s)
      ·refine rp (Pu.fieldAddr fd44_2 rfl) (rq (Qt.ldB 7 ty40 rfl rfl rfl) (rp (Pu.lenSl sl40 rfl) (rp (Pu.fieldAddr fd27_1 rfl) (rq (Qt.ldB 0 ty3 rfl rfl rfl) (rp (Pu.bin rfl rfl rfl) (rp (Pu.pickF rfl rfl) ?_))))))
       exact hJ26 _ _ ⟨dOrF (bne_of hc25),rfl,rfl,rfl,trivial⟩ (fun w s=>s)
    ·intro z65 H hJ23
     refine RS.splitP 62 rfl (fun hc22=>?_) (fun hc22=>?_)
     ·have H:=ifT hc22 H
      refine ro (ro (ro (rp (Pu.pickT rfl rfl) ?_)))
      obtain rfl:=sj H
      exact hJ23 _ _ ⟨rfl,rfl,rfl,rfl,trivial⟩ (fun w s=>s)
     ·have H:=ifF hc22 H
      refine rM rfl ?_
      obtain ⟨x66,hx66,H⟩:=bindE H
      refine rq (Qt.call (vs:=[.int .i64 x16.2]) ent12 rfl fun w s=>throngtop_num_walk x16.2 w  hx66) (rp (Pu.bin rfl rfl rfl) (rp (Pu.pickF rfl rfl) ?_))
      obtain rfl:=sj H
      exact hJ23 _ _ ⟨rfl,rfl,rfl,rfl,trivial⟩ (fun w s=>s)
   ·intro z6 hz6 HX6 hJ6
    refine T.block ?_
    refine T.loopA (γ:=(Option Nat × Nat)) hz6 [(1,_)] (fun (l67,v69) q68=>[(3,rowV q68 l67.length),(4,.int .i64 v69)]) (fun (l67,v69) q68=>Sat w [blk b1 [.int .i64 a0_p.g.w,.int .i64 a0_p.g.h,.slice p0 a0_p.g.tiles.length c0,.int .i64 a0_p.players,.int .i64 a0_p.delay,.int .i64 a0_p.room,.slice p1 a0_p.l.length c1] 27,drow 31 (rowV q68 l67.length) l67]) (none,0) ⟨rfl,trivial⟩ ⟨rfl,rfl,trivial⟩ (fun w s=>(s.nilRowG (α:=Act) 31).pick [0,1] (by decide) rfl) ?_
    rintro ⟨l67,v69⟩ q68 y70 H hd6 KL6 hL6
    try dsimp only [Ex.then] at H
    refine cq [(3,_),(4,_),(1,_)] ?_
    refine T.seq fun K22 hK22=>T.seq fun K23 hK23=>T.region (rM rfl (rp (Pu.bin rfl rfl rfl) (RS.nil (hK23 _ _ ?_))))
    refine T.condP rfl (fun hc71=>?_) (fun hc71=>?_)
    ·have H:=ifT hc71 H
     refine T.skip (hK22 _ _ ?_)
     refine T.seq fun K24 hK24=>T.block (T.seq fun K25 hK25=>T.seq fun K26 hK26=>T.region (rA rfl (RS.nil (hK26 _ _ ?_))))
     refine T.joinE (σ:=List Act) (γ:=(Option Nat × Nat)) H (fun s=>s) [(1,_),(4,_)] ⟨rfl,rfl,trivial⟩ (fun v73 q74=>[(3,rowV q74 v73.length)]) (fun v73 q74=>Sat w [blk b1 [.int .i64 a0_p.g.w,.int .i64 a0_p.g.h,.slice p0 a0_p.g.tiles.length c0,.int .i64 a0_p.players,.int .i64 a0_p.delay,.int .i64 a0_p.room,.slice p1 a0_p.l.length c1] 27,drow 31 (rowV q74 v73.length) v73]) ?_ ?_
     ·rintro v73 q74 H
      try dsimp only [Ex.then] at H
      refine Cont.conseq (fr':=[(3,_),(1,_),(4,_)]) ?_ ⟨rfl,rfl,rfl,trivial⟩ (fun _ s=>s)
      refine id (hK25 _ _ ?_)
      refine T.region (rM rfl (rp (Pu.build (cells:=[_,_,_,_,_]) st31 rfl rfl) (RS.solid (Sd.litS (cs:=[_,_,_,_,_]) sl25 zr31 rfl rfl rfl rfl rfl) rfl rfl fun b75=>?_)))
      obtain ⟨g77,H⟩:=gdE H
      refine RS.solid (Sd.pre (fun w s=>(Sat.starAt 5 3 (Sat.starAt 5 4 (((s.noStars).noStars).nilRowG (α:=Cmd) 37) rfl rfl (by decide)) rfl rfl (by decide))) (Sd.appL (α:=Act) 1 2 5 ([(⟨6,0,4,0,[]⟩:Act)]:List Act) rfl rfl rfl (DRF.cons' (α:=Act) (x:=(⟨6,0,4,0,[]⟩:Act)) (fun _ h=>⟨_,rfl,h⟩) DRF.nil') rfl sl25 zr31 rfl rfl rfl rfl g77 (by decide))) rfl rfl fun q76=>rA rfl (RS.nil (hK24 _ _ (cq [(1,_),(3,_),(4,_)] ?_)))
      refine T.region (rM rfl ?_)
      obtain ⟨g78,H⟩:=gdE H
      refine rp (Pu.addS rfl rfl g78) (rA rfl (RS.nil (hL6 _ _ ((v73 ++ ([(⟨6,0,4,0,[]⟩:Act)]:List Act)),(v69 + 1)) q76 H ⟨rfl,trivial⟩ ⟨rfl,rfl,trivial⟩ (fun w s=>s.pick [0,1] (by decide) rfl))))
     ·intro z72 hz72 HX72 hJ72
      refine T.block ?_
      refine T.loopA (γ:=(Option Nat × Nat)) hz72 [(1,_),(4,_)] (fun (v79,l80) q81=>[(3,rowV q81 l80.length),(5,.int .i64 v79)]) (fun (v79,l80) q81=>Sat w [blk b1 [.int .i64 a0_p.g.w,.int .i64 a0_p.g.h,.slice p0 a0_p.g.tiles.length c0,.int .i64 a0_p.players,.int .i64 a0_p.delay,.int .i64 a0_p.room,.slice p1 a0_p.l.length c1] 27,drow 31 (rowV q81 l80.length) l80]) q68 ⟨rfl,rfl,trivial⟩ ⟨rfl,rfl,trivial⟩ (fun w s=>s) ?_
      rintro ⟨v79,l80⟩ q81 y82 H hd72 KL72 hL72
      try dsimp only [Ex.then] at H
      refine cq [(3,_),(5,_),(1,_),(4,_)] ?_
      refine T.seq fun K27 hK27=>T.seq fun K28 hK28=>T.region (rM rfl (rp (Pu.fieldAddr fd27_1 rfl) (rq (Qt.ldB 0 ty3 rfl rfl rfl) (rp (Pu.bin rfl rfl rfl) (RS.nil (hK28 _ _ ?_))))))
      refine T.condP rfl (fun hc83=>?_) (fun hc83=>?_)
      ·have H:=ifT hc83 H
       refine T.skip (hK27 _ _ (cq [(1,_),(3,_),(4,_),(5,_)] ?_))
       refine T.seq fun K29 hK29=>T.block (T.region (rM rfl (rM rfl (rp (Pu.build (cells:=[_,_,_,_,_]) st31 rfl rfl) (RS.solid (Sd.litS (cs:=[_,_,_,_,_]) sl25 zr31 rfl rfl rfl rfl rfl) rfl rfl fun b84=>?_)))))
       obtain ⟨g86,H⟩:=gdE H
       refine RS.solid (Sd.pre (fun w s=>(Sat.starAt 5 3 (Sat.starAt 5 4 (((s.noStars).noStars).nilRowG (α:=Cmd) 37) rfl rfl (by decide)) rfl rfl (by decide))) (Sd.appL (α:=Act) 1 2 5 ([(⟨1,v79,0,0,[]⟩:Act)]:List Act) rfl rfl rfl (DRF.cons' (α:=Act) (x:=(⟨1,v79,0,0,[]⟩:Act)) (fun _ h=>⟨_,rfl,h⟩) DRF.nil') rfl sl25 zr31 rfl rfl rfl rfl g86 (by decide))) rfl rfl fun q85=>rA rfl (RS.nil (hK29 _ _ (cq [(1,_),(3,_),(4,_),(5,_)] ?_)))
       refine T.region (rM rfl ?_)
       obtain ⟨g87,H⟩:=gdE H
       refine rp (Pu.addS rfl rfl g87) (rA rfl (RS.nil (hL72 _ _ ((v79 + 1),(l80 ++ ([(⟨1,v79,0,0,[]⟩:Act)]:List Act))) q85 H ⟨rfl,rfl,trivial⟩ ⟨rfl,rfl,trivial⟩ (fun w s=>s.pick [0,1] (by decide) rfl))))
      ·have H:=ifF hc83 H
       obtain rfl:=hd72 _ H
       refine T.xt (hJ72 _ _ l80 q81 HX72 ⟨rfl,rfl,trivial⟩ ⟨rfl,trivial⟩ (fun w s=>s))
    ·have H:=ifF hc71 H
     obtain rfl:=hd6 _ H
     refine T.xt (hJ6 _ _ l67 q68 HX6 ⟨rfl,trivial⟩ ⟨rfl,trivial⟩ (fun w s=>s))
 ·intro hJ4
  refine RS.split 14 rfl (fun hc3=>?_) (fun hc3=>?_)
  ·refine ro (ro (ro (rp (Pu.pickT rfl rfl) ?_)))
   exact hJ4 _ _ ⟨dOrT hc3,rfl,trivial⟩ (fun w s=>s)
  ·refine rp (Pu.fieldAddr fd27_1 rfl) (rq (Qt.ldB 0 ty3 rfl rfl rfl) (rp (Pu.bin rfl rfl rfl) (rp (Pu.pickF rfl rfl) ?_)))
   exact hJ4 _ _ ⟨dOrF (bne_of hc3),rfl,trivial⟩ (fun w s=>s)
end Go.Proofs.YtmngdgclldkcfaaGreat
