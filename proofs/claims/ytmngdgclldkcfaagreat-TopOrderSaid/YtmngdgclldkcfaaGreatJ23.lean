/-
  Texts of one's own, joined: TXH TLH TLG2.
-/
import Derived.Test.YtmngdgclldkcfaaGreatRows
import Derived.Test.YtmngdgclldkcfaaGreatJ6
import Derived.Test.YtmngdgclldkcfaaGreatJ7
import Derived.Test.YtmngdgclldkcfaaGreatJ22
import Derived.Test.YtmngdgclldkcfaaGreatSSH
set_option linter.unusedVariables false
set_option linter.unusedSimpArgs false
set_option maxRecDepth 20000
set_option maxHeartbeats 4000000
namespace Go.Proofs.YtmngdgclldkcfaaGreat
open Go.Vg
open Enc (R)
theorem throngref5_Center_walk (a0_g:Grd) (a1_t:Int) (w:World) {v0:Value} (h0:R (hpOf w) a0_g.tiles [v0]) {r:Vec} (H:throngref5_Center a0_g a1_t = some r):Calls Tryz.prog 9 #[.agg #[.int .i64 a0_g.w,.int .i64 a0_g.h,v0],.int .i64 a1_t] w fun e w'=>e = .returned (.agg #[.int .i64 r.x,.int .i64 r.y])∧Ext w w':=by
 have hm0:=R_max h0
 obtain ⟨p0,c0,rfl⟩:=R_form h0
 unfold throngref5_Center at H
 refine te Tryz.func9 (Sat.start w) ?_
 refine T.seq fun _ k1=>T.region (RS.solid (Sd.box (cs:=[_,_,_]) rfl rfl) rfl rfl fun b1=>RS.solid (Sd.alloc zr33 rfl) rfl rfl fun b2=>RS.nil (k1 _ _ ?_))
 refine T.seq fun _ k2=>dr mixed [0,0,1,0,0,0,0,0,1,0,0,0,0,4] ?_
 refine au 3 ?_
 obtain ⟨g3,H⟩:=gdE H
 refine dp rfl (Pu.remN rfl rfl (and3 g3)) ?_
 obtain ⟨g4,H⟩:=gdE H
 refine dp rfl (Pu.mulS rfl rfl g4) ?_
 obtain ⟨g5,H⟩:=gdE H
 refine dp rfl (Pu.addS rfl rfl g5) (au 3 ?_)
 obtain ⟨g6,H⟩:=gdE H
 refine dp rfl (Pu.quoN rfl rfl g6) ?_
 obtain ⟨g7,H⟩:=gdE H
 refine dp rfl (Pu.mulS rfl rfl g7) ?_
 obtain ⟨g8,H⟩:=gdE H
 refine dp rfl (Pu.addS rfl rfl g8) (dp rfl (Pu.build (cells:=[_,_]) st33 rfl rfl) (RD.solid rfl (.inr rfl) rfl rfl (Sd.stB (cs':=[_,_]) 1 ty33.h rfl rfl rfl rfl rfl rfl rfl rfl) (fun _=>ClE.sat _ _) (fun _ _ _=>trivial) (fun h=>nomatch h) fun _=>?_))
 refine RD.nil (k2 _ _ (kq [4] ?_))
 obtain rfl:=sj H
 refine T.rt (Cont.retC 1 rfl ty33.h rfl rfl rfl fun w' s=>?_)
 exact ⟨rfl,s.ext⟩
end Go.Proofs.YtmngdgclldkcfaaGreat
set_option linter.unusedVariables false
set_option linter.unusedSimpArgs false
set_option maxRecDepth 20000
set_option maxHeartbeats 4000000
namespace Go.Proofs.YtmngdgclldkcfaaGreat
open Go.Vg
open Enc (R)
theorem ent11:Ent Tryz.prog 11:=en Tryz.func11
theorem ent12:Ent Tryz.prog 12:=en Tryz.func12
theorem ent27:Ent Tryz.prog 27:=en Tryz.func27
theorem ent28:Ent Tryz.prog 28:=en Tryz.func28
theorem ent56:Ent Tryz.prog 56:=en Tryz.func56
instance fd27_0:FdC Tryz.prog 27 0 0:={}
instance fd27_1:FdC Tryz.prog 27 1 3:={}
instance fd27_2:FdC Tryz.prog 27 2 4:={}
instance fd27_3:FdC Tryz.prog 27 3 5:={}
instance fd27_4:FdC Tryz.prog 27 4 6:={}
theorem st24:stTy Tryz.prog 24 = some ([.int .i64 0,.int .i64 0,.slice none 0 0],[(0,1),(1,1),(2,1)]):=by kernel_rfl
theorem st31:stTy Tryz.prog 31 = some ([.int .i64 0,.int .i64 0,.int .i64 0,.int .i64 0,.slice none 0 0],[(0,1),(1,1),(2,1),(3,1),(4,1)]):=by kernel_rfl
instance ty25:TyC Tryz.prog 25 (1,false):={}
instance ty27:TyC Tryz.prog 27 (7,true):={}
theorem thronglaw0_CommandsWeight_walk (a0_l:List Cmd) (w:World) {v0:Value} (h0:R (hpOf w) a0_l [v0]) {r:Int} (H:thronglaw0_CommandsWeight a0_l = some r):Calls Tryz.prog 56 #[v0] w fun e w'=>e = .returned (.int .i64 r)∧Ext w w':=by
 have hm0:=R_max h0
 obtain ⟨p0,c0,rfl⟩:=R_form h0
 unfold thronglaw0_CommandsWeight at H
 refine te Tryz.func56 (Sat.start w) ?_
 refine au 2 ?_
 refine T.seq fun _ k2=>T.region (au 3 ?_)
 refine RS.nil (k2 _ _ (kq [0,3] ?_))
 refine T.seq fun _ k3=>au 2 ?_
 refine T.joinE (σ:=Int) (γ:=Unit) H (fun s=>s) [] trivial (fun v2 _=>[(3,.int .i64 v2)]) (fun v2 _=>Sat w []) ?_ ?_
 ·rintro v2 ⟨⟩ H
  try dsimp only [Ex.then] at H
  refine Cont.kq [3] ?_
  refine id (k3 _ _ ?_)
  refine au 3 ?_
  obtain rfl:=sj H
  refine T.rt (Cont.ret1 rfl rfl fun w' s=>?_)
  exact ⟨rfl,s.ext⟩
 intro z1 hz1 HX1 hJ1
 refine T.block ?_
 refine T.loopA (γ:=Unit) hz1 [(0,_)] (fun (v3,v4) _=>[(3,.int .i64 v3),(4,.int .i64 v4)]) (fun (v3,v4) _=>Sat w []) () sb sb (fun w s=>s) ?_
 rintro ⟨v3,v4⟩ ⟨⟩ y5 H hd1 KL1 hL1
 try dsimp only [Ex.then] at H
 refine kq [3,4,0] ?_
 refine T.seq fun _ k6=>T.seq fun _ k7=>T.region (au 5 ?_)
 refine RS.joinV 3 14 (.bool (decide ((v4 < (a0_l.length:Int))∧(v3 < 1048576)))) [(0,_),(3,_),(4,_)] sb ?_ ?_
 ·refine RS.nil (k7 _ _ ?_)
  refine T.cP H rfl (fun hc8 H=>?_) (fun hc8 H=>?_)
  ·refine T.skip (k6 _ _ ?_)
   refine T.seq fun _ k8=>T.block (T.region (au 3 ?_))
   obtain ⟨g9,H⟩:=gdE H
   obtain ⟨bl10,ol11,rfl⟩:=R_ptr h0 (ne_of_pos (pos_of g9))
   refine rp (Pu.indexSl sl29.h rfl rfl g9) (rp (Pu.fieldAddr fd37_4.h rfl) ?_)
   obtain ⟨c12,hc13,ha14⟩:=R_el (α:=Cmd) h0 g9
   obtain ⟨u15,rfl,hu15⟩:=hc13
   obtain ⟨p16,cc17,rfl⟩:=R_form hu15
   refine rq (Qt.ldZ1 (f:=4) (cs:=[_,_,_,_,_,_,_,_,_,_]) ty35.h rfl ha14 Held.base rfl) (rp (Pu.lenSl sl35.h rfl) ?_)
   obtain ⟨g18,H⟩:=gdE H
   refine rp (Pu.addS rfl rfl g18) (rA rfl (RS.nil (k8 _ _ (kq [0,3,4] ?_))))
   refine T.region (rM rfl ?_)
   obtain ⟨g19,H⟩:=gdE H
   refine rp (Pu.addS rfl rfl g19) (rA rfl (RS.nil (hL1 _ _ ((v3 + (((gi a0_l v4).units).length:Int)),(v4 + 1)) () H sb sb (fun w s=>s))))
  obtain rfl:=hd1 _ H
  refine T.xt (hJ1 _ _ v3 () HX1 trivial sb (fun w s=>s))
 intro hJ7
 refine RS.splitP 11 rfl (fun hc6=>?_) (fun hc6=>?_)
 ·refine au 3 ?_
  exact hJ7 _ _ ⟨dAndT hc6,rfl,rfl,rfl,trivial⟩ (fun w s=>s)
 refine au 3 ?_
 exact hJ7 _ _ ⟨dAndF hc6,rfl,rfl,rfl,trivial⟩ (fun w s=>s)
theorem thronglaw30_Heavy_walk (a0_p:Scr30) (w:World) {v0 v1:Value} (h0:R (hpOf w) a0_p.g.tiles [v0]) (h1:R (hpOf w) a0_p.l [v1]) {r:Bool} (H:thronglaw30_Heavy a0_p = some r):Calls Tryz.prog 27 #[.agg #[.int .i64 a0_p.g.w,.int .i64 a0_p.g.h,v0,.int .i64 a0_p.players,.int .i64 a0_p.delay,.int .i64 a0_p.room,v1]] w fun e w'=>e = .returned (.bool r)∧Ext w w':=by
 have hm0:=R_max h0
 obtain ⟨p0,c0,rfl⟩:=R_form h0
 have hm1:=R_max h1
 obtain ⟨p1,c1,rfl⟩:=R_form h1
 unfold thronglaw30_Heavy at H
 refine te Tryz.func27 (Sat.start w) ?_
 refine T.seq fun _ k1=>T.region (RS.solid (Sd.box (cs:=[_,_,_,_,_,_,_]) rfl rfl) rfl rfl fun b1=>rA rfl (RS.nil (k1 _ _ ?_)))
 refine au 2 ?_
 refine T.seq fun _ k3=>au 2 ?_
 refine T.joinE (σ:=Int) (γ:=Unit) H (fun s=>s) [(1,_)] sb (fun v3 _=>[(3,.int .i64 v3)]) (fun v3 _=>Sat w [blk b1 [.int .i64 a0_p.g.w,.int .i64 a0_p.g.h,.slice p0 a0_p.g.tiles.length c0,.int .i64 a0_p.players,.int .i64 a0_p.delay,.int .i64 a0_p.room,.slice p1 a0_p.l.length c1] 27]) ?_ ?_
 ·rintro v3 ⟨⟩ H
  try dsimp only [Ex.then] at H
  refine Cont.kq [3,1] ?_
  refine id (k3 _ _ ?_)
  refine T.seq fun _ k5=>T.region (au 3 ?_)
  refine RS.joinV 5 32 (.bool (decide ((500 < v3) ∨ (100 < (a0_p.l.length:Int))))) [(1,_)] sb ?_ ?_
  ·refine rM rfl ?_
   refine RS.joinV 6 39 (.bool (decide (((500 < v3) ∨ (100 < (a0_p.l.length:Int))) ∨ (200 < (a0_p.g.tiles.length:Int))))) [] trivial ?_ ?_
   ·refine rA rfl (RS.nil (k5 _ _ ?_))
    obtain rfl:=sj H
    refine T.rt (Cont.ret1 rfl rfl fun w' s=>?_)
    exact ⟨rfl,s.ext⟩
   intro hJ7
   refine RS.splitP 33 rfl (fun hc6=>?_) (fun hc6=>?_)
   ·refine au 6 ?_
    exact hJ7 _ _ ⟨dOrT hc6,trivial⟩ (fun w s=>s)
   refine au 6 ?_
   exact hJ7 _ _ ⟨dOrF hc6,trivial⟩ (fun w s=>s)
  intro hJ5
  refine RS.splitP 27 rfl (fun hc4=>?_) (fun hc4=>?_)
  ·refine au 5 ?_
   exact hJ5 _ _ ⟨dOrT hc4,rfl,trivial⟩ (fun w s=>s)
  refine au 5 ?_
  exact hJ5 _ _ ⟨dOrF hc4,rfl,trivial⟩ (fun w s=>s)
 intro z2 hz2 HX2 hJ2
 refine T.block ?_
 refine T.loopA (γ:=Unit) hz2 [(1,_)] (fun (v8,v9) _=>[(3,.int .i64 v8),(4,.int .i64 v9)]) (fun (v8,v9) _=>Sat w [blk b1 [.int .i64 a0_p.g.w,.int .i64 a0_p.g.h,.slice p0 a0_p.g.tiles.length c0,.int .i64 a0_p.players,.int .i64 a0_p.delay,.int .i64 a0_p.room,.slice p1 a0_p.l.length c1] 27]) () sb sb (fun w s=>s) ?_
 rintro ⟨v8,v9⟩ ⟨⟩ y10 H hd2 KL2 hL2
 try dsimp only [Ex.then] at H
 refine kq [3,4,1] ?_
 refine T.seq fun _ k6=>T.seq fun _ k7=>T.region (au 6 ?_)
 refine RS.joinV 3 13 (.bool (decide ((v9 < (a0_p.l.length:Int))∧(v8 < 1048576)))) [(1,_),(3,_),(4,_)] sb ?_ ?_
 ·refine RS.nil (k7 _ _ ?_)
  refine T.cP H rfl (fun hc13 H=>?_) (fun hc13 H=>?_)
  ·refine T.skip (k6 _ _ ?_)
   refine T.seq fun _ k8=>T.block (T.region (au 4 ?_))
   obtain ⟨g14,H⟩:=gdE H
   obtain ⟨bl15,ol16,rfl⟩:=R_ptr h1 (ne_of_pos (pos_of g14))
   refine rp (Pu.indexSl sl25.h rfl rfl g14) (rp (Pu.fieldAddr fd31_4.h rfl) ?_)
   obtain ⟨c17,hc18,ha19⟩:=R_el (α:=Act) h1 g14
   obtain ⟨u20,rfl,hu20⟩:=hc18
   obtain ⟨p21,cc22,rfl⟩:=R_form hu20
   refine rq (Qt.ldZ1 (f:=4) (cs:=[_,_,_,_,_]) ty29.h rfl ha19 Held.base rfl) ?_
   obtain ⟨x23,hx23,H⟩:=bindE H
   refine rq (Qt.call (vs:=[_]) ent56 rfl fun w s=>thronglaw0_CommandsWeight_walk ((gi a0_p.l v9).commands) w ((Rd.base hu20) w s) hx23) ?_
   obtain ⟨g24,H⟩:=gdE H
   refine rp (Pu.addS rfl rfl g24) (rA rfl (RS.nil (k8 _ _ (kq [1,3,4] ?_))))
   refine T.region (rM rfl ?_)
   obtain ⟨g25,H⟩:=gdE H
   refine rp (Pu.addS rfl rfl g25) (rA rfl (RS.nil (hL2 _ _ ((v8 + x23),(v9 + 1)) () H sb sb (fun w s=>s))))
  obtain rfl:=hd2 _ H
  refine T.xt (hJ2 _ _ v8 () HX2 sb sb (fun w s=>s))
 intro hJ12
 refine RS.splitP 10 rfl (fun hc11=>?_) (fun hc11=>?_)
 ·refine au 3 ?_
  exact hJ12 _ _ ⟨dAndT hc11,rfl,rfl,rfl,trivial⟩ (fun w s=>s)
 refine au 3 ?_
 exact hJ12 _ _ ⟨dAndF hc11,rfl,rfl,rfl,trivial⟩ (fun w s=>s)
theorem throngtop_num_walk (a0_e:Int) (w:World) {r:Int} (H:throngtop_num a0_e = some r):Calls Tryz.prog 12 #[.int .i64 a0_e] w fun e w'=>e = .returned (.int .i64 r)∧Ext w w':=by
 unfold throngtop_num at H
 refine te Tryz.func12 (Sat.start w) ?_
 refine au 5 ?_
 obtain rfl:=sj H
 refine T.rt (Cont.ret1 rfl rfl fun w' s=>?_)
 exact ⟨rfl,s.ext⟩
theorem throngtop_may_walk (a0_p:Scr30) (w:World) {v0 v1:Value} (h0:R (hpOf w) a0_p.g.tiles [v0]) (h1:R (hpOf w) a0_p.l [v1]) {r:Bool} (H:throngtop_may a0_p = some r):Calls Tryz.prog 8 #[.agg #[.int .i64 a0_p.g.w,.int .i64 a0_p.g.h,v0,.int .i64 a0_p.players,.int .i64 a0_p.delay,.int .i64 a0_p.room,v1]] w fun e w'=>e = .returned (.bool r)∧Ext w w':=by
 have hm0:=R_max h0
 obtain ⟨p0,c0,rfl⟩:=R_form h0
 have hm1:=R_max h1
 obtain ⟨p1,c1,rfl⟩:=R_form h1
 unfold throngtop_may at H
 refine te Tryz.func8 (Sat.start w) ?_
 refine T.seq fun _ k1=>T.region (RS.solid (Sd.box (cs:=[_,_,_,_,_,_,_]) rfl rfl) rfl rfl fun b1=>rA rfl (RS.nil (k1 _ _ ?_)))
 refine T.seq fun _ k2=>T.region (rq (Qt.ldBA (us:=[_,_,_,_,_,_,_]) 0 ty27.h rfl rfl rfl rfl) ?_)
 obtain ⟨x2,hx2,H⟩:=bindE H
 refine rq (Qt.call (vs:=[_]) ent27 rfl fun w s=>thronglaw30_Heavy_walk a0_p w ((Rd.base h0) w s) ((Rd.base h1) w s) hx2) (au 2 ?_)
 refine RS.joinB H 4 10 (fun b5=>.bool b5) [(1,_),(2,_)] sb ?_ ?_
 ·intro b5 H
  refine rM rfl ?_
  refine RS.joinV 4 15 (.bool (decide ((b5 = true)∧(1 ≤ a0_p.players)))) [(1,_),(2,_)] sb ?_ ?_
  ·refine rM rfl ?_
   refine RS.joinV 4 20 (.bool (decide (((b5 = true)∧(1 ≤ a0_p.players))∧(a0_p.players ≤ 8)))) [(1,_),(2,_)] sb ?_ ?_
   ·refine rM rfl ?_
    refine RS.joinV 4 25 (.bool (decide ((((b5 = true)∧(1 ≤ a0_p.players))∧(a0_p.players ≤ 8))∧(1 ≤ a0_p.delay)))) [(1,_),(2,_)] sb ?_ ?_
    ·refine rM rfl ?_
     refine RS.joinV 4 30 (.bool (decide (((((b5 = true)∧(1 ≤ a0_p.players))∧(a0_p.players ≤ 8))∧(1 ≤ a0_p.delay))∧(a0_p.delay ≤ 8)))) [(1,_),(2,_)] sb ?_ ?_
     ·refine rM rfl ?_
      refine RS.joinB H 4 35 (fun b16=>.bool b16) [(2,_)] sb ?_ ?_
      ·intro b16 H
       refine rA rfl (RS.nil (k2 _ _ ?_))
       obtain rfl:=sj H
       refine T.rt (Cont.ret1 rfl rfl fun w' s=>?_)
       exact ⟨rfl,s.ext⟩
      intro z17 H hJ15
      refine RS.splitP 31 rfl (fun hc14=>?_) (fun hc14=>?_)
      ·have H:=ifT hc14 H
       refine au 2 ?_
       obtain ⟨x18,hx18,H⟩:=bindE H
       refine rq (Qt.call (vs:=[_]) ent28 rfl fun w s=>throngref15_Room_walk a0_p.room w  hx18) (rp (Pu.pickT rfl rfl) ?_)
       obtain rfl:=sj H
       exact hJ15 _ _ sb (fun w s=>s)
      have H:=ifF hc14 H
      refine au 4 ?_
      obtain rfl:=sj H
      exact hJ15 _ _ sb (fun w s=>s)
     intro hJ13
     refine RS.splitP 26 rfl (fun hc12=>?_) (fun hc12=>?_)
     ·refine au 4 ?_
      exact hJ13 _ _ ⟨dAndT hc12,rfl,rfl,trivial⟩ (fun w s=>s)
     refine au 4 ?_
     exact hJ13 _ _ ⟨dAndF hc12,rfl,rfl,trivial⟩ (fun w s=>s)
    intro hJ11
    refine RS.splitP 21 rfl (fun hc10=>?_) (fun hc10=>?_)
    ·refine au 4 ?_
     exact hJ11 _ _ ⟨dAndT hc10,rfl,rfl,trivial⟩ (fun w s=>s)
    refine au 4 ?_
    exact hJ11 _ _ ⟨dAndF hc10,rfl,rfl,trivial⟩ (fun w s=>s)
   intro hJ9
   refine RS.splitP 16 rfl (fun hc8=>?_) (fun hc8=>?_)
   ·refine au 4 ?_
    exact hJ9 _ _ ⟨dAndT hc8,rfl,rfl,trivial⟩ (fun w s=>s)
   refine au 4 ?_
   exact hJ9 _ _ ⟨dAndF hc8,rfl,rfl,trivial⟩ (fun w s=>s)
  intro hJ7
  refine RS.split 11 rfl (fun hc6=>?_) (fun hc6=>?_)
  ·refine au 4 ?_
   exact hJ7 _ _ ⟨dAndT hc6,rfl,rfl,trivial⟩ (fun w s=>s)
  refine au 4 ?_
  exact hJ7 _ _ ⟨dAndF (bne_of hc6),rfl,rfl,trivial⟩ (fun w s=>s)
 intro z19 H hJ4
 refine RS.split 6 rfl (fun hc3=>?_) (fun hc3=>?_)
 ·have H:=ifT hc3 H
  refine au 2 ?_
  obtain ⟨x20,hx20,H⟩:=bindE H
  refine rq (Qt.call (vs:=[_]) ent16 rfl fun w s=>throngref5_Ground_walk a0_p.g w ((Rd.base h0) w s) hx20) (rp (Pu.pickT rfl rfl) ?_)
  obtain rfl:=sj H
  exact hJ4 _ _ sb (fun w s=>s)
 have H:=ifB hc3 H
 refine au 4 ?_
 obtain rfl:=sj H
 exact hJ4 _ _ sb (fun w s=>s)
theorem throngtop_wakes_walk (w:World) {r:Bool} (H:throngtop_wakes = some r):Calls Tryz.prog 13 #[] w fun e w'=>e = .returned (.bool r)∧Ext w w':=by
 unfold throngtop_wakes at H
 refine te Tryz.func13 (Sat.start w) ?_
 refine au 2 ?_
 refine T.seq fun _ k2=>T.region (RS.solid (Sd.litS (cs:=[_]) sl22.h zr5 rfl rfl rfl rfl rfl) rfl rfl fun b1=>?_)
 refine RS.weakS (fun w s=>s.litRow (α:=UInt8) (n:=1) 0 ([(0:UInt8)]:List UInt8) rfl (by decide) rfl ⟨[_],_,rfl,rfl,rfl⟩) ?_
 refine rp (Pu.build (cells:=[_,_,_]) st24 rfl rfl) (rp (Pu.build (cells:=[_,_,_,_,_]) st31 rfl rfl) (RS.solid (Sd.litS (cs:=[_,_,_,_,_]) sl25.h zr31 rfl rfl rfl rfl rfl) rfl rfl fun b2=>?_))
 refine RS.weakS (S':=Sat w [row nilH 5 (rowV (some b1,1) 1) ([(0:UInt8)]:List UInt8),drow 31 (rowV (some b2,1) 1) ([(⟨2,1,0,0,[]⟩:Act)]:List Act),dead,dead,dead]) (fun w s=>(Sat.litRowG (α:=Act) (m:=1) 1 4 ([(⟨2,1,0,0,[]⟩:Act)]:List Act) (Sat.starAt 4 2 (Sat.starAt 4 3 (((s.noStars).noStars).nilRowG (α:=Cmd) 37) rfl rfl (by decide)) rfl rfl (by decide)) rfl rfl (by decide) (by decide) rfl (DRF.cons' (α:=Act) (x:=(⟨2,1,0,0,[]⟩:Act)) (fun _ h=>⟨_,rfl,h⟩) DRF.nil'))) ?_
 obtain ⟨x3,hx3,H⟩:=bindE H
 refine RS.solid (Sd.callN (vs:=[_,_,_,_,_]) ent11 rfl (fun w s=>session_Run_walk (⟨1,1,([(0:UInt8)]:List UInt8)⟩:Grd) 1 1 1 ([(⟨2,1,0,0,[]⟩:Act)]:List Act) w ((Rd.ofRowN 0 rfl) w s) ((Rd.ofG 1 rfl) w s) hx3)) rfl rfl fun ⟨q4,q5,q6,q7,q8⟩=>?_
 refine au 3 ?_
 refine RS.solid (Sd.alloc zr44 rfl) rfl rfl fun b9=>au 2 ?_
 refine RS.nil (k2 _ _ (kq [1,2] ?_))
 refine T.seq fun _ k3=>nz ?_
 refine T.region (rM rfl ?_)
 obtain ⟨x10,hx10,H⟩:=bindE H
 refine rq (Qt.call (vs:=[_]) ent12 rfl fun w s=>throngtop_num_walk x3.2 w  hx10) (au 2 ?_)
 refine RS.joinV 5 19 (.bool (decide ((x10 = 0)∧((x3.1.turns.length:Int) = 1)))) [(1,_)] sb ?_ ?_
 ·refine rM rfl ?_
  obtain ⟨g15,H⟩:=gdE H
  refine RS.joinV 6 26 (.bool (decide (((x10 = 0)∧((x3.1.turns.length:Int) = 1))∧((gi x3.1.turns (0:Int)) = 1)))) [] trivial ?_ ?_
  ·refine rA rfl (RS.nil (k3 _ _ ?_))
   obtain rfl:=sj H
   refine nz ?_
   refine T.rt (Cont.ret1 rfl rfl fun w' s=>?_)
   exact ⟨rfl,s.ext⟩
  intro hJ14
  refine RS.splitP 20 rfl (fun hc13=>?_) (fun hc13=>?_)
  ·refine au 2 ?_
   refine RS.know (p:=∃ g cap,q4 = (some g,cap)) (fun w s=>(s.row_some (k:=5) rfl (pos_of (g15 hc13)))) ?_
   rintro ⟨gg16,cc17,rfl⟩
   refine rp (Pu.indexSl sl35.h rfl rfl (g15 hc13)) (rq (Qt.ld0 (α:=Int) (Rd.ofRowN 5 rfl) ty3.h rfl rfl (g15 hc13) (by rintro _ _ rfl; rfl)) (au 2 ?_))
   exact hJ14 _ _ ⟨dAndT hc13,trivial⟩ (fun w s=>s)
  refine au 6 ?_
  exact hJ14 _ _ ⟨dAndF hc13,trivial⟩ (fun w s=>s)
 intro hJ12
 refine RS.splitP 14 rfl (fun hc11=>?_) (fun hc11=>?_)
 ·refine au 5 ?_
  exact hJ12 _ _ ⟨dAndT hc11,rfl,trivial⟩ (fun w s=>s)
 refine au 5 ?_
 exact hJ12 _ _ ⟨dAndF hc11,rfl,trivial⟩ (fun w s=>s)
end Go.Proofs.YtmngdgclldkcfaaGreat
set_option linter.unusedVariables false
set_option linter.unusedSimpArgs false
set_option maxRecDepth 20000
set_option maxHeartbeats 4000000
namespace Go.Proofs.YtmngdgclldkcfaaGreat
open Go.Vg
open Enc (R)
def throngtop_TopOrder (a0_p:Scr30):Option Bool :=
  Option.bind (throngtop_may a0_p) fun x2 =>
  if ¬ ((((!x2) = true) ∨ (a0_p.players < 2)) ∨ (4 < a0_p.players))→(0 ≤ (0:Int)∧(0:Int) < (a0_p.g.tiles.length:Int)) then
  if ((((!x2) = true) ∨ (a0_p.players < 2)) ∨ (4 < a0_p.players)) ∨ (¬ ((gi a0_p.g.tiles (0:Int)).toNat:Int) = 0) then
  some true
  else
  if ([]:List Act).length + 1 < 1099511627776 then
  Option.bind (α:=List Act) (loop (σ:=Int × List Act) (β:=List Act) (fun (v88,l89) =>
  if 1 ≤ v88 then
  Option.bind (throngref5_Center a0_p.g 0) fun x93 =>
  Option.bind (throngref5_Center a0_p.g 0) fun x94 =>
  Option.bind (thronglaw0_Within a0_p.room a0_p.players) fun x95 =>
  if I64 (1 + x95) then
  if l89.length + 2 < 1099511627776 then
  if I64 (v88 - 1) then
  some (St.next ((v88 - 1),(l89 ++ ([(⟨1,v88,0,0,([(⟨0,1,1,0,[],0,0,0,x93⟩:Cmd),(⟨0,2,1,0,[],0,0,0,x94⟩:Cmd)]:List Cmd)⟩:Act),(⟨2,(1 + x95),0,0,[]⟩:Act)]:List Act))))
  else none
  else none
  else none
  else
  some (St.done l89)) (a0_p.players,(([]:List Act) ++ ([(⟨6,0,10,0,[]⟩:Act)]:List Act)))) fun v15 =>
  if v15.length + 1 < 1099511627776 then
  Option.bind (session_Run a0_p.g a0_p.players a0_p.delay a0_p.room (v15 ++ ([(⟨6,0,15,0,[]⟩:Act)]:List Act))) fun x20 =>
  Option.bind (throngtop_num x20.2) fun x27 =>
  if (((¬ x27 = 0) ∨ (¬ (x20.1.worlds.length:Int) = a0_p.players)) ∨ (¬ (x20.1.turns.length:Int) = a0_p.players)) ∨ (¬ (x20.1.splits.length:Int) = a0_p.players) then
  some false
  else
  Option.bind (α:=Ex (Unit) (Bool)) (loop (σ:=Int) (β:=Ex (Unit) (Bool)) (fun v37 =>
  if v37 < a0_p.players then
  if 0 ≤ v37∧v37 < (x20.1.worlds.length:Int) then
  if ¬ (¬ (((gi x20.1.worlds v37).us).length:Int) = 1)→(0 ≤ v37∧v37 < (x20.1.worlds.length:Int)) then
  if ¬ (¬ (((gi x20.1.worlds v37).us).length:Int) = 1)→(0 ≤ (0:Int)∧(0:Int) < (((gi x20.1.worlds v37).us).length:Int)) then
  if ¬ ((¬ (((gi x20.1.worlds v37).us).length:Int) = 1) ∨ (¬ (gi ((gi x20.1.worlds v37).us) (0:Int)).owner = 1))→(0 ≤ v37∧v37 < (x20.1.splits.length:Int)) then
  if ¬ (((¬ (((gi x20.1.worlds v37).us).length:Int) = 1) ∨ (¬ (gi ((gi x20.1.worlds v37).us) (0:Int)).owner = 1)) ∨ ((gi x20.1.splits v37) = true))→(0 ≤ v37∧v37 < (x20.1.turns.length:Int)) then
  if ¬ (((¬ (((gi x20.1.worlds v37).us).length:Int) = 1) ∨ (¬ (gi ((gi x20.1.worlds v37).us) (0:Int)).owner = 1)) ∨ ((gi x20.1.splits v37) = true))→(0 ≤ (0:Int)∧(0:Int) < (x20.1.turns.length:Int)) then
  if (((¬ (((gi x20.1.worlds v37).us).length:Int) = 1) ∨ (¬ (gi ((gi x20.1.worlds v37).us) (0:Int)).owner = 1)) ∨ ((gi x20.1.splits v37) = true)) ∨ (¬ (gi x20.1.turns v37) = (gi x20.1.turns (0:Int))) then
  some (St.done (Ex.up false))
  else
  if I64 (v37 + 1) then
  some (St.next (v37 + 1))
  else none
  else none
  else none
  else none
  else none
  else none
  else none
  else
  some (St.done (Ex.go ()))) 0) fun x=>x.then fun _ =>
  Option.bind (throngtop_wakes) fun x36 =>
  some x36
  else none
  else none
  else none
end Go.Proofs.YtmngdgclldkcfaaGreat
