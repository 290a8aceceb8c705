/-
  Texts of one's own, joined: TMH TMG1 TMH1.
-/
import Derived.Test.YtmngdgclldkcfaaGreatRows
import Derived.Test.YtmngdgclldkcfaaGreatJ6
import Derived.Test.YtmngdgclldkcfaaGreatJ7
import Derived.Test.YtmngdgclldkcfaaGreatJ27
import Derived.Test.YtmngdgclldkcfaaGreatSSH
set_option linter.unusedVariables false
set_option linter.unusedSimpArgs false
set_option maxRecDepth 20000
set_option maxHeartbeats 4000000
namespace Go.Proofs.YtmngdgclldkcfaaGreat
open Go.Vg
open Enc (R)
theorem ent11:Ent Tryz.prog 11:=en Tryz.func11
theorem ent12:Ent Tryz.prog 12:=en Tryz.func12
theorem st24:stTy Tryz.prog 24 = some ([.int .i64 0,.int .i64 0,.slice none 0 0],[(0,1),(1,1),(2,1)]):=by kernel_rfl
theorem st31:stTy Tryz.prog 31 = some ([.int .i64 0,.int .i64 0,.int .i64 0,.int .i64 0,.slice none 0 0],[(0,1),(1,1),(2,1),(3,1),(4,1)]):=by kernel_rfl
instance ty45:TyC Tryz.prog 45 (1,false):={}
theorem throngref5_Center_walk (a0_g:Grd) (a1_t:Int) (w:World) {v0:Value} (h0:R (hpOf w) a0_g.tiles [v0]) {r:Vec} (H:throngref5_Center a0_g a1_t = some r):Calls Tryz.prog 9 #[.agg #[.int .i64 a0_g.w,.int .i64 a0_g.h,v0],.int .i64 a1_t] w fun e w'=>e = .returned (.agg #[.int .i64 r.x,.int .i64 r.y])∧Ext w w':=by
 have hm0:=R_max h0
 obtain ⟨p0,c0,rfl⟩:=R_form h0
 unfold throngref5_Center at H
 refine te Tryz.func9 (Sat.start w) ?_
 refine T.seq fun _ k1=>T.region (RS.solid (Sd.box (cs:=[_,_,_]) rfl rfl) rfl rfl fun b1=>RS.solid (Sd.alloc zr33 rfl) rfl rfl fun b2=>RS.nil (k1 _ _ ?_))
 refine T.seq fun _ k2=>dr mixed [0,0,1,0,0,0,0,0,1,0,0,0,0,4] ?_
 refine au 3 ?_
 obtain ⟨g3,H⟩:=gdE H
 refine dp rfl (Pu.remN rfl rfl (and3 g3)) ?_
 obtain ⟨g4,H⟩:=gdE H
 refine dp rfl (Pu.mulS rfl rfl g4) ?_
 obtain ⟨g5,H⟩:=gdE H
 refine dp rfl (Pu.addS rfl rfl g5) (au 3 ?_)
 obtain ⟨g6,H⟩:=gdE H
 refine dp rfl (Pu.quoN rfl rfl g6) ?_
 obtain ⟨g7,H⟩:=gdE H
 refine dp rfl (Pu.mulS rfl rfl g7) ?_
 obtain ⟨g8,H⟩:=gdE H
 refine dp rfl (Pu.addS rfl rfl g8) (dp rfl (Pu.build (cells:=[_,_]) st33 rfl rfl) (RD.solid rfl (.inr rfl) rfl rfl (Sd.stB (cs':=[_,_]) 1 ty33.h rfl rfl rfl rfl rfl rfl rfl rfl) (fun _=>ClE.sat _ _) (fun _ _ _=>trivial) (fun h=>nomatch h) fun _=>?_))
 refine RD.nil (k2 _ _ (kq [4] ?_))
 obtain rfl:=sj H
 refine T.rt (Cont.retC 1 rfl ty33.h rfl rfl rfl fun w' s=>?_)
 exact ⟨rfl,s.ext⟩
theorem throngref0_EqErrors_walk (a0_a:List Int) (a1_b:List Int) (w:World) {v0 v1:Value} (h0:R (hpOf w) a0_a [v0]) (h1:R (hpOf w) a1_b [v1]) {r:Bool} (H:throngref0_EqErrors a0_a a1_b = some r):Calls Tryz.prog 24 #[v0,v1] w fun e w'=>e = .returned (.bool r)∧Ext w w':=by
 have hm0:=R_max h0
 obtain ⟨p0,c0,rfl⟩:=R_form h0
 have hm1:=R_max h1
 obtain ⟨p1,c1,rfl⟩:=R_form h1
 unfold throngref0_EqErrors at H
 refine te Tryz.func24 (Sat.start w) ?_
 refine au 2 ?_
 refine T.seq fun _ k2=>au 6 ?_
 refine T.cP H rfl (fun _ H=>nomatch H) (fun hc1 H=>?_)
 refine T.skip (k2 _ _ (kq [0,1] ?_))
 refine T.seq fun _ k5=>au 2 ?_
 refine T.joinE (σ:=Unit) (γ:=Unit) H Ex.go [] trivial (fun _ _=>[]) (fun _ _=>Sat w []) ?_ ?_
 ·rintro ⟨⟩ ⟨⟩ H
  try dsimp only [Ex.then] at H
  refine Cont.kq [] ?_
  refine id (k5 _ _ ?_)
  refine au 2 ?_
  obtain rfl:=sj H
  refine T.rt (Cont.ret1 rfl rfl fun w' s=>?_)
  exact ⟨rfl,s.ext⟩
 intro z2 hz2 HX2 hJ2
 refine T.block ?_
 refine T.loopA (γ:=Unit) hz2 [(0,_),(1,_)] (fun v3 _=>[(5,.int .i64 v3)]) (fun v3 _=>Sat w []) () sb sb (fun w s=>s) ?_
 rintro v3 ⟨⟩ y4 H hd2 KL2 hL2
 try dsimp only [Ex.then] at H
 refine kq [5,0,1] ?_
 refine T.seq fun _ k8=>au 5 ?_
 refine T.cP H rfl (fun hc5 H=>?_) (fun hc5 H=>?_)
 ·refine T.skip (k8 _ _ (kq [0,1,5] ?_))
  refine T.seq fun _ k10=>T.block (T.seq fun _ k11=>dr mixed [0,0,0,1,0,0,0,1,0] ?_)
  refine au 2 ?_
  obtain ⟨g6,H⟩:=gdE H
  obtain ⟨bl7,ol8,rfl⟩:=R_ptr h0 (ne_of_pos (pos_of g6))
  refine dp rfl (Pu.indexSl sl65.h rfl rfl g6) (dq rfl (Qt.ld0 (α:=Int) (Rd.base h0) ty45.h rfl rfl g6 (by rintro _ _ rfl; rfl)) (au 2 ?_))
  obtain ⟨g9,H⟩:=gdE H
  obtain ⟨bl10,ol11,rfl⟩:=R_ptr h1 (ne_of_pos (pos_of g9))
  refine dp rfl (Pu.indexSl sl65.h rfl rfl g9) (dq rfl (Qt.ld0 (α:=Int) (Rd.base h1) ty45.h rfl rfl g9 (by rintro _ _ rfl; rfl)) (dp rfl (Pu.bin rfl rfl rfl) (RD.nil (k11 _ _ ?_))))
  refine T.cP H rfl (fun _ H=>nomatch H) (fun hc12 H=>?_)
  refine T.skip (k10 _ _ (kq [0,1,5] ?_))
  refine T.region (rM rfl ?_)
  obtain ⟨g13,H⟩:=gdE H
  refine rp (Pu.addS rfl rfl g13) (rA rfl (RS.nil (hL2 _ _ (v3 + 1) () H sb sb (fun w s=>s))))
 obtain rfl:=hd2 _ H
 refine T.xt (hJ2 _ _ () () HX2 trivial trivial (fun w s=>s))
theorem throngtop_num_walk (a0_e:Int) (w:World) {r:Int} (H:throngtop_num a0_e = some r):Calls Tryz.prog 12 #[.int .i64 a0_e] w fun e w'=>e = .returned (.int .i64 r)∧Ext w w':=by
 unfold throngtop_num at H
 refine te Tryz.func12 (Sat.start w) ?_
 refine au 5 ?_
 obtain rfl:=sj H
 refine T.rt (Cont.ret1 rfl rfl fun w' s=>?_)
 exact ⟨rfl,s.ext⟩
theorem throngtop_wakes_walk (w:World) {r:Bool} (H:throngtop_wakes = some r):Calls Tryz.prog 13 #[] w fun e w'=>e = .returned (.bool r)∧Ext w w':=by
 unfold throngtop_wakes at H
 refine te Tryz.func13 (Sat.start w) ?_
 refine au 2 ?_
 refine T.seq fun _ k2=>T.region (RS.solid (Sd.litS (cs:=[_]) sl22.h zr5 rfl rfl rfl rfl rfl) rfl rfl fun b1=>?_)
 refine RS.weakS (fun w s=>s.litRow (α:=UInt8) (n:=1) 0 ([(0:UInt8)]:List UInt8) rfl (by decide) rfl ⟨[_],_,rfl,rfl,rfl⟩) ?_
 refine rp (Pu.build (cells:=[_,_,_]) st24 rfl rfl) (rp (Pu.build (cells:=[_,_,_,_,_]) st31 rfl rfl) (RS.solid (Sd.litS (cs:=[_,_,_,_,_]) sl25.h zr31 rfl rfl rfl rfl rfl) rfl rfl fun b2=>?_))
 refine RS.weakS (S':=Sat w [row nilH 5 (rowV (some b1,1) 1) ([(0:UInt8)]:List UInt8),drow 31 (rowV (some b2,1) 1) ([(⟨2,1,0,0,[]⟩:Act)]:List Act),dead,dead,dead]) (fun w s=>(Sat.litRowG (α:=Act) (m:=1) 1 4 ([(⟨2,1,0,0,[]⟩:Act)]:List Act) (Sat.starAt 4 2 (Sat.starAt 4 3 (((s.noStars).noStars).nilRowG (α:=Cmd) 37) rfl rfl (by decide)) rfl rfl (by decide)) rfl rfl (by decide) (by decide) rfl (DRF.cons' (α:=Act) (x:=(⟨2,1,0,0,[]⟩:Act)) (fun _ h=>⟨_,rfl,h⟩) DRF.nil'))) ?_
 obtain ⟨x3,hx3,H⟩:=bindE H
 refine RS.solid (Sd.callN (vs:=[_,_,_,_,_]) ent11 rfl (fun w s=>session_Run_walk (⟨1,1,([(0:UInt8)]:List UInt8)⟩:Grd) 1 1 1 ([(⟨2,1,0,0,[]⟩:Act)]:List Act) w ((Rd.ofRowN 0 rfl) w s) ((Rd.ofG 1 rfl) w s) hx3)) rfl rfl fun ⟨q4,q5,q6,q7,q8⟩=>?_
 refine au 3 ?_
 refine RS.solid (Sd.alloc zr44 rfl) rfl rfl fun b9=>au 2 ?_
 refine RS.nil (k2 _ _ (kq [1,2] ?_))
 refine T.seq fun _ k3=>nz ?_
 refine T.region (rM rfl ?_)
 obtain ⟨x10,hx10,H⟩:=bindE H
 refine rq (Qt.call (vs:=[_]) ent12 rfl fun w s=>throngtop_num_walk x3.2 w  hx10) (au 2 ?_)
 refine RS.joinV 5 19 (.bool (decide ((x10 = 0)∧((x3.1.turns.length:Int) = 1)))) [(1,_)] sb ?_ ?_
 ·refine rM rfl ?_
  obtain ⟨g15,H⟩:=gdE H
  refine RS.joinV 6 26 (.bool (decide (((x10 = 0)∧((x3.1.turns.length:Int) = 1))∧((gi x3.1.turns (0:Int)) = 1)))) [] trivial ?_ ?_
  ·refine rA rfl (RS.nil (k3 _ _ ?_))
   obtain rfl:=sj H
   refine nz ?_
   refine T.rt (Cont.ret1 rfl rfl fun w' s=>?_)
   exact ⟨rfl,s.ext⟩
  intro hJ14
  refine RS.splitP 20 rfl (fun hc13=>?_) (fun hc13=>?_)
  ·refine au 2 ?_
   refine RS.know (p:=∃ g cap,q4 = (some g,cap)) (fun w s=>(s.row_some (k:=5) rfl (pos_of (g15 hc13)))) ?_
   rintro ⟨gg16,cc17,rfl⟩
   refine rp (Pu.indexSl sl35.h rfl rfl (g15 hc13)) (rq (Qt.ld0 (α:=Int) (Rd.ofRowN 5 rfl) ty3.h rfl rfl (g15 hc13) (by rintro _ _ rfl; rfl)) (au 2 ?_))
   exact hJ14 _ _ ⟨dAndT hc13,trivial⟩ (fun w s=>s)
  refine au 6 ?_
  exact hJ14 _ _ ⟨dAndF hc13,trivial⟩ (fun w s=>s)
 intro hJ12
 refine RS.splitP 14 rfl (fun hc11=>?_) (fun hc11=>?_)
 ·refine au 5 ?_
  exact hJ12 _ _ ⟨dAndT hc11,rfl,trivial⟩ (fun w s=>s)
 refine au 5 ?_
 exact hJ12 _ _ ⟨dAndF hc11,rfl,trivial⟩ (fun w s=>s)
end Go.Proofs.YtmngdgclldkcfaaGreat
set_option linter.unusedVariables false
set_option linter.unusedSimpArgs false
set_option maxRecDepth 20000
set_option maxHeartbeats 4000000
namespace Go.Proofs.YtmngdgclldkcfaaGreat
open Go.Vg
open Enc (R)
def throngtop_TopSolid (a0_p:Crd):Option Bool :=
  Option.bind (thronglaw0_Within a0_p.n 5) fun x2 =>
  if I64 (5 + x2) then
  if 0 ≤ (5 + x2)∧(5 + x2) ≤ 281474976710656 then
  Option.bind (world_New (⟨(5 + x2),1,(List.replicate (5 + x2).toNat (0:UInt8))⟩:Grd) 1) fun x7 =>
  Option.bind (eng_Open x7.1 2) fun (o13,o14) =>
  Option.bind (throngtop_num x7.2) fun x16 =>
  Option.bind (if ¬ x16 = 0 then
  some true
  else
  Option.bind (throngtop_num o14) fun x120 =>
  some (decide (¬ x120 = 0))) fun b19 =>
  if (b19 = true) ∨ (o13.isNone = true) then
  none
  else
  Option.bind o13 fun z23 =>
  if I64 ((5 + x2) - 4) then
  Option.bind (thronglaw0_Within a0_p.to ((5 + x2) - 4)) fun x25 =>
  if I64 (2 + x25) then
  Option.bind (thronglaw0_Within a0_p.kind 3) fun x28 =>
  if 0 ≤ x28∧x28 < (3:Int) then
  Option.bind (throngref5_Center (⟨(5 + x2),1,(List.replicate (5 + x2).toNat (0:UInt8))⟩:Grd) 0) fun x31 =>
  if I64 ((5 + x2) - 1) then
  Option.bind (eng_Step z23 ([(⟨1,0,1,(gi ([0,1,3]:List Int) x28),[],0,0,0,x31⟩:Cmd),(⟨1,0,4,0,[],(2 + x25),1,1,(⟨0,0⟩:Vec)⟩:Cmd),(⟨1,0,2,0,([1]:List Int),((5 + x2) - 1),0,0,(⟨0,0⟩:Vec)⟩:Cmd)]:List Cmd)) fun x37 =>
  Option.bind (throngtop_num x37.2.1) fun x39 =>
  Option.bind (if ¬ x39 = 0 then
  some true
  else
  Option.bind (throngref0_EqErrors x37.1 ([0,0,0]:List Int)) fun x118 =>
  some (!x118)) fun b42 =>
  if b42 = true then
  none
  else
  Option.bind (eng_World x37.2.2) fun x44 =>
  if ¬ (x44.us.length:Int) = 1 then
  none
  else
  Option.bind (eng_World x37.2.2) fun x49 =>
  if 0 ≤ (0:Int)∧(0:Int) < (x49.us.length:Int) then
  Option.bind (if ¬ (gi x49.us (0:Int)).state = 3 then
  some true
  else
  Option.bind (throngref5_Center (⟨(5 + x2),1,(List.replicate (5 + x2).toNat (0:UInt8))⟩:Grd) 0) fun x115 =>
  some (decide (¬ ((gi x49.us (0:Int)).pos) = x115))) fun b59 =>
  if b59 = true then
  none
  else
  if I64 ((5 + x2) - 1) then
  Option.bind (eng_Step x37.2.2 ([(⟨1,0,5,2,[],0,0,0,(⟨0,0⟩:Vec)⟩:Cmd),(⟨1,0,2,0,([1]:List Int),((5 + x2) - 1),0,0,(⟨0,0⟩:Vec)⟩:Cmd)]:List Cmd)) fun x66 =>
  Option.bind (throngtop_num x66.2.1) fun x68 =>
  Option.bind (if ¬ x68 = 0 then
  some true
  else
  Option.bind (throngref0_EqErrors x66.1 ([0,0]:List Int)) fun x113 =>
  some (!x113)) fun b71 =>
  if b71 = true then
  none
  else
  Option.bind (α:=Ex (Egn) (Bool)) (loop (σ:=Int × Egn) (β:=Ex (Egn) (Bool)) (fun (v93,v94) =>
  if I64 (8 * (5 + x2)) then
  if v93 < (8 * (5 + x2)) then
  Option.bind (eng_Step v94 []) fun x98 =>
  Option.bind (throngtop_num x98.2.1) fun x100 =>
  Option.bind (if ¬ x100 = 0 then
  some true
  else
  Option.bind (eng_World x98.2.2) fun x107 =>
  some (decide (¬ (x107.us.length:Int) = 1))) fun b103 =>
  if b103 = true then
  none
  else
  if I64 (v93 + 1) then
  some (St.next ((v93 + 1),x98.2.2))
  else none
  else
  some (St.done (Ex.go v94))
  else none) (0,x66.2.2)) fun x=>x.then fun v74 =>
  Option.bind (eng_World v74) fun x75 =>
  if 0 ≤ (0:Int)∧(0:Int) < (x75.us.length:Int) then
  Option.bind (if (gi x75.us (0:Int)).state = 2 then
  if I64 ((5 + x2) - 1) then
  Option.bind (throngref5_Center (⟨(5 + x2),1,(List.replicate (5 + x2).toNat (0:UInt8))⟩:Grd) ((5 + x2) - 1)) fun x92 =>
  some (decide (((gi x75.us (0:Int)).pos) = x92))
  else none
  else
  some false) fun b84 =>
  Option.bind (if b84 = true then
  Option.bind (throngtop_wakes) fun x89 =>
  some x89
  else
  some false) fun b87 =>
  some b87
  else none
  else none
  else none
  else none
  else none
  else none
  else none
  else none
  else none
end Go.Proofs.YtmngdgclldkcfaaGreat
set_option linter.unusedVariables false
set_option linter.unusedSimpArgs false
set_option maxRecDepth 20000
set_option maxHeartbeats 4000000
namespace Go.Proofs.YtmngdgclldkcfaaGreat
open Go.Vg
open Enc (R)
theorem ent10:Ent Tryz.prog 10:=en Tryz.func10
theorem ent13:Ent Tryz.prog 13:=en Tryz.func13
theorem ent24:Ent Tryz.prog 24:=en Tryz.func24
theorem ent9:Ent Tryz.prog 9:=en Tryz.func9
instance fd60_1:FdC Tryz.prog 60 1 3:={}
instance fd60_2:FdC Tryz.prog 60 2 4:={}
instance fd60_3:FdC Tryz.prog 60 3 5:={}
theorem fld52_5:fldTy Tryz.prog 52 5 = some (50,7):=by kernel_rfl
theorem ul62:Tryz.prog.underlying 62 = some (.pointer 105):=by kernel_rfl
theorem throngtop_TopSolid_walk (a0_p:Crd) (w:World) {v0:Value} (h0:R (hpOf w) a0_p.g.tiles [v0]) {r:Bool} (H:throngtop_TopSolid a0_p = some r):Calls Tryz.prog 6 #[.agg #[.int .i64 a0_p.g.w,.int .i64 a0_p.g.h,v0,.int .i64 a0_p.n,.int .i64 a0_p.kind,.int .i64 a0_p.to,.int .i64 a0_p.ticks,.int .i64 a0_p.many,.int .i64 a0_p.room]] w fun e w'=>e = .returned (.bool r)∧Ext w w':=by
 have hm0:=R_max h0
 obtain ⟨p0,c0,rfl⟩:=R_form h0
 unfold throngtop_TopSolid at H
 refine te Tryz.func6 (Sat.start w) ?_
 refine T.seq fun _ k1=>T.region (RS.solid (Sd.box (cs:=[_,_,_,_,_,_,_,_,_]) rfl rfl) rfl rfl fun b1=>rA rfl (RS.nil (k1 _ _ ?_)))
 refine T.seq fun _ k2=>T.region (au 2 ?_)
 obtain ⟨x2,hx2,H⟩:=bindE H
 refine rq (Qt.call (vs:=[_,_]) ent10 rfl fun w s=>thronglaw0_Within_walk a0_p.n 5 w  hx2) ?_
 obtain ⟨g3,H⟩:=gdE H
 refine rp (Pu.addS rfl rfl g3) (rA rfl (RS.nil (k2 _ _ (kq [1,3] ?_))))
 refine T.seq fun _ k3=>T.region (au 2 ?_)
 obtain ⟨g5,H⟩:=gdE H
 refine RS.solid (Sd.make (α:=UInt8) (B:=nilH) (0:UInt8) sl22.h zr5 rfl (by decide) rfl rfl (by omega) (by omega) (by omega)) rfl rfl fun b4=>rp (Pu.build (cells:=[_,_,_]) st24 rfl rfl) (RS.solid (Sd.alloc zr24 rfl) rfl rfl fun b6=>RS.solid (Sd.stB (cs':=[_,_,_]) 2 ty24.h rfl rfl rfl rfl rfl rfl rfl rfl) rfl rfl fun _=>RS.nil (k3 _ _ (kq [1,3,4] ?_)))
 refine T.seq fun _ k4=>T.region (rq (Qt.ldBA (us:=[_,_,_]) 2 ty24.h rfl rfl rfl rfl) ?_)
 obtain ⟨x7,hx7,H⟩:=bindE H
 refine RS.solid (Sd.callN (vs:=[_,_]) ent14 rfl (fun w s=>world_New_walk (⟨(5 + x2),1,(List.replicate (5 + x2).toNat (0:UInt8))⟩:Grd) 1 w ((Rd.ofRowN 1 rfl) w s) hx7)) rfl rfl fun ⟨q8,q9,q10⟩=>?_
 refine au 3 ?_
 refine RS.solid (Sd.alloc zr52 rfl) rfl rfl fun b11=>au 2 ?_
 refine RS.nil (k4 _ _ (kq [1,3,4,5,6] ?_))
 refine T.seq fun _ k5=>nz ?_
 refine T.region (rq (Qt.ldBA (us:=[_,_,_,_,_,_,_,_]) 6 ty52.h rfl rfl rfl rfl) ?_)
 obtain ⟨x12,hx12,H⟩:=bindE H
 obtain ⟨o13,o14⟩:=x12
 dsimp only at H
 refine RS.solid (Sd.callN (vs:=[_,_]) ent17 rfl (fun w s=>eng_Open_walk x7.1 2 w ((Rd.ofRowN 3 rfl) w s) ((Rd.ofRowN 4 rfl) w s) ((Rd.ofRowN 5 rfl) w s) hx12)) rfl rfl fun g15=>au 5 ?_
 refine RS.nil (k5 _ _ (kq [1,3,4,6,7,8] ?_))
 refine T.seq fun _ k6=>T.seq fun _ k7=>nz ?_
 refine T.region (rM rfl ?_)
 obtain ⟨x16,hx16,H⟩:=bindE H
 refine rq (Qt.call (vs:=[_]) ent12 rfl fun w s=>throngtop_num_walk x7.2 w  hx16) (au 2 ?_)
 refine RS.joinB H 4 39 (fun b19=>.bool b19) [(1,_),(3,_),(4,_),(7,_)] sb ?_ ?_
 ·intro b19 H
  refine rM rfl ?_
  refine RS.joinV 3 43 (.bool (decide ((b19 = true) ∨ (o13.isNone = true)))) [(1,_),(3,_),(4,_),(7,_)] sb ?_ ?_
  ·refine RS.nil (k7 _ _ ?_)
   refine T.cP H rfl (fun _ H=>nomatch H) (fun hc22 H=>?_)
   obtain ⟨z23,hz23,HZz23⟩:=bindE H
   subst hz23
   have H:=HZz23
   refine T.weakS (fun w s=>s.optSome (C:=Eng_ch) 7 rfl) ?_
   refine T.skip (k6 _ _ ?_)
   refine T.seq fun _ k9=>nz ?_
   refine T.region (au 3 ?_)
   obtain ⟨g24,H⟩:=gdE H
   refine rp (Pu.subS rfl rfl g24) ?_
   obtain ⟨x25,hx25,H⟩:=bindE H
   refine rq (Qt.call (vs:=[_,_]) ent10 rfl fun w s=>thronglaw0_Within_walk a0_p.to ((5 + x2) - 4) w  hx25) ?_
   obtain ⟨g26,H⟩:=gdE H
   refine rp (Pu.addS rfl rfl g26) (rA rfl (RS.nil (k9 _ _ (kq [1,3,4,7,9] ?_))))
   refine T.seq fun _ k10=>nz ?_
   refine T.region (RS.solid (Sd.litS (cs:=[_,_,_]) sl35.h zr3 rfl rfl rfl rfl rfl) rfl rfl fun b27=>?_)
   refine RS.weakS (fun w s=>s.litRow (α:=Int) (n:=3) 8 ([0,1,3]:List Int) rfl (by decide) rfl ⟨[_],_,rfl,rfl,⟨[_],_,rfl,rfl,⟨[_],_,rfl,rfl,rfl⟩⟩⟩) ?_
   refine au 2 ?_
   obtain ⟨x28,hx28,H⟩:=bindE H
   refine rq (Qt.call (vs:=[_,_]) ent10 rfl fun w s=>thronglaw0_Within_walk a0_p.kind 3 w  hx28) ?_
   obtain ⟨g29,H⟩:=gdE H
   refine RS.know (fun w s=>(s.row_fits (q:=(some b27,3)) (m:=3) (k:=8) rfl)) fun hf30=>?_
   refine rp (Pu.indexSl sl35.h rfl rfl g29) (rq (Qt.ld0 (α:=Int) (Rd.ofRowN 8 rfl) ty3.h rfl rfl (idx_of hf30.1 g29) (by rintro _ _ rfl; rfl)) (rA rfl (RS.nil (k10 _ _ (kq [3,4,7,9,10] ?_)))))
   refine T.seq fun _ k11=>nz ?_
   refine T.region (au 3 ?_)
   obtain ⟨x31,hx31,H⟩:=bindE H
   refine rq (Qt.call (vs:=[_,_]) ent9 rfl fun w s=>throngref5_Center_walk (⟨(5 + x2),1,(List.replicate (5 + x2).toNat (0:UInt8))⟩:Grd) 0 w ((Rd.ofRowN 1 rfl) w s) hx31) (rp (Pu.build (cells:=[_,_,_,_,_,_,_,_,_,_]) st37 rfl rfl) (rM rfl (rp (Pu.build (cells:=[_,_,_,_,_,_,_,_,_,_]) st37 rfl rfl) (RS.solid (Sd.litS (cs:=[_]) sl35.h zr3 rfl rfl rfl rfl rfl) rfl rfl fun b32=>?_))))
   refine RS.weakS (fun w s=>s.litRow (α:=Int) (n:=1) 9 ([1]:List Int) rfl (by decide) rfl ⟨[_],_,rfl,rfl,rfl⟩) ?_
   refine rM rfl ?_
   obtain ⟨g33,H⟩:=gdE H
   refine rp (Pu.subS rfl rfl g33) (rp (Pu.build (cells:=[_,_,_,_,_,_,_,_,_,_]) st37 rfl rfl) (RS.solid (Sd.litS (cs:=[_,_,_,_,_,_,_,_,_,_,_,_,_,_,_,_,_,_,_,_,_,_,_,_,_,_,_,_,_,_]) sl29.h zr37 rfl rfl rfl rfl rfl) rfl rfl fun b34=>?_))
   refine RS.weakS (fun w s=>(Sat.starAt 9 11 (Sat.starAt 9 12 (Sat.relen (q:=(some b32,1)) (m:=1) 9 ((s.noStars).noStars) rfl) rfl rfl (by decide)) rfl rfl (by decide))) ?_
   refine nz ?_
   refine RS.weakS (fun w s=>(Sat.starAt 14 9 (Sat.starAt 14 13 ((s.noStars).nilRow (α:=Int) 3) rfl rfl (by decide)) rfl rfl (by decide))) ?_
   refine nz ?_
   refine RS.weakS (fun w s=>(Sat.starAt 16 14 (Sat.starAt 16 15 ((s.noStars).nilRow (α:=Int) 3) rfl rfl (by decide)) rfl rfl (by decide))) ?_
   refine nz ?_
   refine RS.weakS (S':=Sat w [blk b1 [.int .i64 a0_p.g.w,.int .i64 a0_p.g.h,.slice p0 a0_p.g.tiles.length c0,.int .i64 a0_p.n,.int .i64 a0_p.kind,.int .i64 a0_p.to,.int .i64 a0_p.ticks,.int .i64 a0_p.many,.int .i64 a0_p.room] 60,row nilH 5 (rowV (some b4,(5 + x2).toNat) ((5 + x2).toNat)) (List.replicate (5 + x2).toNat (0:UInt8)),blk b6 [.int .i64 (5 + x2),.int .i64 1,rowV (some b4,(5 + x2).toNat) ((5 + x2).toNat)] 24,row nilH 5 (rowV q8 x7.1.g.tiles.length) x7.1.g.tiles,row nilH 135 (rowV q9 x7.1.bs.length) x7.1.bs,row nilH 54 (rowV q10 x7.1.us.length) x7.1.us,blk b11 [.int .i64 x7.1.tick,.int .i64 x7.1.players,.int .i64 x7.1.nextid,.int .i64 x7.1.g.w,.int .i64 x7.1.g.h,rowV q8 x7.1.g.tiles.length,rowV q9 x7.1.bs.length,rowV q10 x7.1.us.length] 52,Eng_ch g15 z23,row nilH 3 (rowV (some b27,3) 3) ([0,1,3]:List Int),dead,drow 37 (rowV (some b34,3) 3) ([(⟨1,0,1,(gi ([0,1,3]:List Int) x28),[],0,0,0,x31⟩:Cmd),(⟨1,0,4,0,[],(2 + x25),1,1,(⟨0,0⟩:Vec)⟩:Cmd),(⟨1,0,2,0,([1]:List Int),((5 + x2) - 1),0,0,(⟨0,0⟩:Vec)⟩:Cmd)]:List Cmd),dead,dead,dead,dead,dead,dead]) (fun w s=>(Sat.litRowG (α:=Cmd) (m:=3) 10 16 ([(⟨1,0,1,(gi ([0,1,3]:List Int) x28),[],0,0,0,x31⟩:Cmd),(⟨1,0,4,0,[],(2 + x25),1,1,(⟨0,0⟩:Vec)⟩:Cmd),(⟨1,0,2,0,([1]:List Int),((5 + x2) - 1),0,0,(⟨0,0⟩:Vec)⟩:Cmd)]:List Cmd) s rfl rfl (by decide) (by decide) rfl (DRF.cons' (α:=Cmd) (x:=(⟨1,0,1,(gi ([0,1,3]:List Int) x28),[],0,0,0,x31⟩:Cmd)) (fun _ h=>⟨_,rfl,h⟩) (DRF.cons' (α:=Cmd) (x:=(⟨1,0,4,0,[],(2 + x25),1,1,(⟨0,0⟩:Vec)⟩:Cmd)) (fun _ h=>⟨_,rfl,h⟩) (DRF.cons' (α:=Cmd) (x:=(⟨1,0,2,0,([1]:List Int),((5 + x2) - 1),0,0,(⟨0,0⟩:Vec)⟩:Cmd)) (fun _ h=>⟨_,rfl,h⟩) DRF.nil'))))) ?_
   refine RS.exP (fun w s=>s.freeze 10 rfl) fun hh35 hz36=>?_
   obtain ⟨x37,hx37,H⟩:=bindE H
   refine RS.solid (Sd.callF 7 ent18 rfl rfl (fun w s=>eng_Step_walk g15 z23 ([(⟨1,0,1,(gi ([0,1,3]:List Int) x28),[],0,0,0,x31⟩:Cmd),(⟨1,0,4,0,[],(2 + x25),1,1,(⟨0,0⟩:Vec)⟩:Cmd),(⟨1,0,2,0,([1]:List Int),((5 + x2) - 1),0,0,(⟨0,0⟩:Vec)⟩:Cmd)]:List Cmd) hh35 (Held.rest 10 rfl (by decide) (Held.fz 0 rfl)) (drow_R hz36) hx37 w s)) rfl rfl fun q38=>au 5 ?_
   refine RS.nil (k11 _ _ (kq [3,4,6,7,11] ?_))
   refine T.seq fun _ k12=>T.seq fun _ k13=>nz ?_
   refine T.region (rM rfl ?_)
   obtain ⟨x39,hx39,H⟩:=bindE H
   refine rq (Qt.call (vs:=[_]) ent12 rfl fun w s=>throngtop_num_walk x37.2.1 w  hx39) (au 2 ?_)
   refine RS.joinB H 5 80 (fun b42=>.bool b42) [(3,_),(4,_),(7,_)] sb ?_ ?_
   ·intro b42 H
    refine RS.nil (k13 _ _ ?_)
    refine T.cB H rfl (fun _ H=>nomatch H) (fun hc43 H=>?_)
    refine T.skip (k12 _ _ ?_)
    refine T.seq fun _ k15=>T.seq fun _ k16=>nz ?_
    refine T.region (rM rfl ?_)
    obtain ⟨x44,hx44,H⟩:=bindE H
    refine RS.solid (Sd.callF 7 ent19 rfl rfl (fun w s=>eng_World_walk g15 x37.2.2  hx44 w s)) rfl rfl fun ⟨q45,q46,q47⟩=>?_
    refine rp (Pu.fieldS (cs:=[_,_,_,_,_,_,_,_]) fld52_5 ty50.h rfl rfl) (au 2 ?_)
    refine RS.nil (k16 _ _ ?_)
    refine T.cP H rfl (fun _ H=>nomatch H) (fun hc48 H=>?_)
    refine T.skip (k15 _ _ (kq [3,4,7] ?_))
    refine T.seq fun _ k18=>nz ?_
    refine T.region (rM rfl ?_)
    obtain ⟨x49,hx49,H⟩:=bindE H
    refine RS.solid (Sd.callF 7 ent19 rfl rfl (fun w s=>eng_World_walk g15 x37.2.2  hx49 w s)) rfl rfl fun ⟨q50,q51,q52⟩=>?_
    refine rp (Pu.fieldS (cs:=[_,_,_,_,_,_,_,_]) fld52_5 ty50.h rfl rfl) ?_
    obtain ⟨g53,H⟩:=gdE H
    refine RS.know (p:=∃ g cap,q52 = (some g,cap)) (fun w s=>(s.row_some (k:=23) rfl (pos_of g53))) ?_
    rintro ⟨gg54,cc55,rfl⟩
    refine rp (Pu.indexSl sl50.h rfl rfl g53) (rq (Qt.ldW (α:=Unt) (cs:=[_,_,_,_,_,_,_,_,_,_]) (Rd.ofRowN 23 rfl) ty54.h rfl rfl g53 rfl (by rintro _ _ rfl; rfl)) (RS.solid (Sd.alloc zr54 rfl) rfl rfl fun b56=>RS.solid (Sd.stB (cs':=[_,_,_,_,_,_,_,_,_,_]) 24 ty54.h rfl rfl rfl rfl rfl rfl rfl rfl) rfl rfl fun _=>RS.nil (k18 _ _ (kq [3,4,7,12] ?_))))
    refine T.seq fun _ k19=>T.seq fun _ k20=>nz ?_
    refine dr mixed [0,1,0,0,0,1,1,1,0,0] ?_
    refine au 4 ?_
    refine RD.joinB H 6 100 (fun b59=>.bool b59) [(3,_),(4,_),(7,_),(12,_)] sb ?_ ?_
    ·intro b59 H
     refine RD.nil (k20 _ _ ?_)
     refine T.cB H rfl (fun _ H=>nomatch H) (fun hc60 H=>?_)
     refine T.skip (k19 _ _ ?_)
     refine T.seq fun _ k22=>nz ?_
     refine T.region (rM rfl (rp (Pu.build (cells:=[_,_,_,_,_,_,_,_,_,_]) st37 rfl rfl) (RS.solid (Sd.litS (cs:=[_]) sl35.h zr3 rfl rfl rfl rfl rfl) rfl rfl fun b61=>?_)))
     refine RS.weakS (fun w s=>s.litRow (α:=Int) (n:=1) 25 ([1]:List Int) rfl (by decide) rfl ⟨[_],_,rfl,rfl,rfl⟩) ?_
     refine rM rfl ?_
     obtain ⟨g62,H⟩:=gdE H
     refine rp (Pu.subS rfl rfl g62) (rp (Pu.build (cells:=[_,_,_,_,_,_,_,_,_,_]) st37 rfl rfl) (RS.solid (Sd.litS (cs:=[_,_,_,_,_,_,_,_,_,_,_,_,_,_,_,_,_,_,_,_]) sl29.h zr37 rfl rfl rfl rfl rfl) rfl rfl fun b63=>?_))
     refine RS.weakS (fun w s=>(Sat.starAt 25 27 (Sat.starAt 25 28 (Sat.relen (q:=(some b61,1)) (m:=1) 25 ((s.noStars).noStars) rfl) rfl rfl (by decide)) rfl rfl (by decide))) ?_
     refine nz ?_
     refine RS.weakS (fun w s=>(Sat.starAt 30 25 (Sat.starAt 30 29 ((s.noStars).nilRow (α:=Int) 3) rfl rfl (by decide)) rfl rfl (by decide))) ?_
     refine nz ?_
     refine RS.weakS (S':=Sat w [blk b1 [.int .i64 a0_p.g.w,.int .i64 a0_p.g.h,.slice p0 a0_p.g.tiles.length c0,.int .i64 a0_p.n,.int .i64 a0_p.kind,.int .i64 a0_p.to,.int .i64 a0_p.ticks,.int .i64 a0_p.many,.int .i64 a0_p.room] 60,row nilH 5 (rowV (some b4,(5 + x2).toNat) ((5 + x2).toNat)) (List.replicate (5 + x2).toNat (0:UInt8)),blk b6 [.int .i64 (5 + x2),.int .i64 1,rowV (some b4,(5 + x2).toNat) ((5 + x2).toNat)] 24,row nilH 5 (rowV q8 x7.1.g.tiles.length) x7.1.g.tiles,row nilH 135 (rowV q9 x7.1.bs.length) x7.1.bs,row nilH 54 (rowV q10 x7.1.us.length) x7.1.us,blk b11 [.int .i64 x7.1.tick,.int .i64 x7.1.players,.int .i64 x7.1.nextid,.int .i64 x7.1.g.w,.int .i64 x7.1.g.h,rowV q8 x7.1.g.tiles.length,rowV q9 x7.1.bs.length,rowV q10 x7.1.us.length] 52,Eng_ch g15 x37.2.2,row nilH 3 (rowV (some b27,3) 3) ([0,1,3]:List Int),dead,fz hh35,dead,dead,dead,dead,dead,dead,row nilH 45 (rowV q38 x37.1.length) x37.1,row nilH 5 (rowV q45 x44.g.tiles.length) x44.g.tiles,row nilH 135 (rowV q46 x44.bs.length) x44.bs,row nilH 54 (rowV q47 x44.us.length) x44.us,row nilH 5 (rowV q50 x49.g.tiles.length) x49.g.tiles,row nilH 135 (rowV q51 x49.bs.length) x49.bs,row nilH 54 (rowV (some gg54,cc55) x49.us.length) x49.us,blk b56 [.int .i64 ((gi x49.us (0:Int)).id),.int .i64 ((gi x49.us (0:Int)).owner),.int .i64 ((gi x49.us (0:Int)).kind),.int .i64 (((gi x49.us (0:Int)).pos).x),.int .i64 (((gi x49.us (0:Int)).pos).y),.int .i64 ((gi x49.us (0:Int)).goal),.int .i64 ((gi x49.us (0:Int)).next),.int .i64 ((gi x49.us (0:Int)).stuck),.int .i64 ((gi x49.us (0:Int)).inn),.int .i64 ((gi x49.us (0:Int)).state)] 54,dead,drow 37 (rowV (some b63,2) 2) ([(⟨1,0,5,2,[],0,0,0,(⟨0,0⟩:Vec)⟩:Cmd),(⟨1,0,2,0,([1]:List Int),((5 + x2) - 1),0,0,(⟨0,0⟩:Vec)⟩:Cmd)]:List Cmd),dead,dead,dead,dead]) (fun w s=>(Sat.litRowG (α:=Cmd) (m:=2) 26 30 ([(⟨1,0,5,2,[],0,0,0,(⟨0,0⟩:Vec)⟩:Cmd),(⟨1,0,2,0,([1]:List Int),((5 + x2) - 1),0,0,(⟨0,0⟩:Vec)⟩:Cmd)]:List Cmd) s rfl rfl (by decide) (by decide) rfl (DRF.cons' (α:=Cmd) (x:=(⟨1,0,5,2,[],0,0,0,(⟨0,0⟩:Vec)⟩:Cmd)) (fun _ h=>⟨_,rfl,h⟩) (DRF.cons' (α:=Cmd) (x:=(⟨1,0,2,0,([1]:List Int),((5 + x2) - 1),0,0,(⟨0,0⟩:Vec)⟩:Cmd)) (fun _ h=>⟨_,rfl,h⟩) DRF.nil')))) ?_
     refine RS.exP (fun w s=>s.freeze 26 rfl) fun hh64 hz65=>?_
     obtain ⟨x66,hx66,H⟩:=bindE H
     refine RS.solid (Sd.callF 7 ent18 rfl rfl (fun w s=>eng_Step_walk g15 x37.2.2 ([(⟨1,0,5,2,[],0,0,0,(⟨0,0⟩:Vec)⟩:Cmd),(⟨1,0,2,0,([1]:List Int),((5 + x2) - 1),0,0,(⟨0,0⟩:Vec)⟩:Cmd)]:List Cmd) hh64 (Held.rest 26 rfl (by decide) (Held.fz 0 rfl)) (drow_R hz65) hx66 w s)) rfl rfl fun q67=>au 5 ?_
     refine RS.nil (k22 _ _ (kq [3,4,6,7,11,12] ?_))
     refine T.seq fun _ k23=>T.seq fun _ k24=>nz ?_
     refine T.region (rM rfl ?_)
     obtain ⟨x68,hx68,H⟩:=bindE H
     refine rq (Qt.call (vs:=[_]) ent12 rfl fun w s=>throngtop_num_walk x66.2.1 w  hx68) (au 2 ?_)
     refine RS.joinB H 5 120 (fun b71=>.bool b71) [(3,_),(4,_),(7,_),(12,_)] sb ?_ ?_
     ·intro b71 H
      refine RS.nil (k24 _ _ ?_)
      refine T.cB H rfl (fun _ H=>nomatch H) (fun hc72 H=>?_)
      refine T.skip (k23 _ _ ?_)
      refine T.seq fun _ k26=>au 2 ?_
      refine T.joinE (σ:=Egn) (γ:=Unit) H Ex.go [(3,_),(4,_),(7,_),(12,_)] sb (fun v74 _=>[]) (fun v74 _=>Sat w [blk b1 [.int .i64 a0_p.g.w,.int .i64 a0_p.g.h,.slice p0 a0_p.g.tiles.length c0,.int .i64 a0_p.n,.int .i64 a0_p.kind,.int .i64 a0_p.to,.int .i64 a0_p.ticks,.int .i64 a0_p.many,.int .i64 a0_p.room] 60,row nilH 5 (rowV (some b4,(5 + x2).toNat) ((5 + x2).toNat)) (List.replicate (5 + x2).toNat (0:UInt8)),blk b6 [.int .i64 (5 + x2),.int .i64 1,rowV (some b4,(5 + x2).toNat) ((5 + x2).toNat)] 24,row nilH 5 (rowV q8 x7.1.g.tiles.length) x7.1.g.tiles,row nilH 135 (rowV q9 x7.1.bs.length) x7.1.bs,row nilH 54 (rowV q10 x7.1.us.length) x7.1.us,blk b11 [.int .i64 x7.1.tick,.int .i64 x7.1.players,.int .i64 x7.1.nextid,.int .i64 x7.1.g.w,.int .i64 x7.1.g.h,rowV q8 x7.1.g.tiles.length,rowV q9 x7.1.bs.length,rowV q10 x7.1.us.length] 52,Eng_ch g15 v74,row nilH 3 (rowV (some b27,3) 3) ([0,1,3]:List Int),dead,fz hh35,dead,dead,dead,dead,dead,dead,row nilH 45 (rowV q38 x37.1.length) x37.1,row nilH 5 (rowV q45 x44.g.tiles.length) x44.g.tiles,row nilH 135 (rowV q46 x44.bs.length) x44.bs,row nilH 54 (rowV q47 x44.us.length) x44.us,row nilH 5 (rowV q50 x49.g.tiles.length) x49.g.tiles,row nilH 135 (rowV q51 x49.bs.length) x49.bs,row nilH 54 (rowV (some gg54,cc55) x49.us.length) x49.us,blk b56 [.int .i64 ((gi x49.us (0:Int)).id),.int .i64 ((gi x49.us (0:Int)).owner),.int .i64 ((gi x49.us (0:Int)).kind),.int .i64 (((gi x49.us (0:Int)).pos).x),.int .i64 (((gi x49.us (0:Int)).pos).y),.int .i64 ((gi x49.us (0:Int)).goal),.int .i64 ((gi x49.us (0:Int)).next),.int .i64 ((gi x49.us (0:Int)).stuck),.int .i64 ((gi x49.us (0:Int)).inn),.int .i64 ((gi x49.us (0:Int)).state)] 54,dead,fz hh64,dead,dead,dead,dead,row nilH 45 (rowV q67 x66.1.length) x66.1]) ?_ ?_
      ·rintro v74 ⟨⟩ H
       try dsimp only [Ex.then] at H
       refine Cont.kq [3,4,7,12] ?_
       refine id (k26 _ _ ?_)
       refine T.seq fun _ k28=>nz ?_
       refine T.region (rM rfl ?_)
       obtain ⟨x75,hx75,H⟩:=bindE H
       refine RS.solid (Sd.callF 7 ent19 rfl rfl (fun w s=>eng_World_walk g15 v74  hx75 w s)) rfl rfl fun ⟨q76,q77,q78⟩=>?_
       refine rp (Pu.fieldS (cs:=[_,_,_,_,_,_,_,_]) fld52_5 ty50.h rfl rfl) ?_
       obtain ⟨g79,H⟩:=gdE H
       refine RS.know (p:=∃ g cap,q78 = (some g,cap)) (fun w s=>(s.row_some (k:=34) rfl (pos_of g79))) ?_
       rintro ⟨gg80,cc81,rfl⟩
       refine rp (Pu.indexSl sl50.h rfl rfl g79) (rq (Qt.ldW (α:=Unt) (cs:=[_,_,_,_,_,_,_,_,_,_]) (Rd.ofRowN 34 rfl) ty54.h rfl rfl g79 rfl (by rintro _ _ rfl; rfl)) (RS.solid (Sd.stB (cs':=[_,_,_,_,_,_,_,_,_,_]) 24 ty54.h rfl rfl rfl rfl rfl rfl rfl rfl) rfl rfl fun _=>RS.nil (k28 _ _ (kq [3,4,12] ?_))))
       refine T.seq fun _ k29=>nz ?_
       refine dr mixed [0,1,0,0,0,1,1,0,0,1,0,0,0,1,0,0] ?_
       refine au 4 ?_
       refine RD.joinB H 8 158 (fun b84=>.bool b84) [] trivial ?_ ?_
       ·intro b84 H
        refine dp rfl (Pu.move rfl) ?_
        refine RD.joinB H 2 161 (fun b87=>.bool b87) [] trivial ?_ ?_
        ·intro b87 H
         refine dp rfl (Pu.assign rfl) (RD.nil (k29 _ _ ?_))
         obtain rfl:=sj H
         refine nz ?_
         refine T.rt (Cont.ret1 rfl rfl fun w' s=>?_)
         exact ⟨rfl,s.ext⟩
        intro z88 H hJ86
        refine RD.split 159 rfl (fun hc85=>?_) (fun hc85=>?_)
        ·have H:=ifT hc85 H
         obtain ⟨x89,hx89,H⟩:=bindE H
         refine dq rfl (Qt.call (vs:=[]) ent13 rfl fun w s=>throngtop_wakes_walk  w  hx89) (dp rfl (Pu.pickT rfl rfl) ?_)
         obtain rfl:=sj H
         exact hJ86 _ sb
        have H:=ifB hc85 H
        refine au 2 ?_
        obtain rfl:=sj H
        exact hJ86 _ sb
       intro z90 H hJ83
       refine RD.splitP 150 rfl (fun hc82=>?_) (fun hc82=>?_)
       ·have H:=ifT hc82 H
        refine au 4 ?_
        obtain ⟨g91,H⟩:=gdE H
        refine dp rfl (Pu.subS rfl rfl g91) ?_
        obtain ⟨x92,hx92,H⟩:=bindE H
        refine dq rfl (Qt.call (vs:=[_,_]) ent9 rfl fun w s=>throngref5_Center_walk (⟨(5 + x2),1,(List.replicate (5 + x2).toNat (0:UInt8))⟩:Grd) ((5 + x2) - 1) w ((Rd.ofRowN 1 rfl) w s) hx92) (dp rfl (Pu.eqSt eqt33 rfl rfl rfl (eq_Vec ((gi x75.us (0:Int)).pos) x92)) (dp rfl (Pu.pickT rfl rfl) ?_))
        obtain rfl:=sj H
        exact hJ83 _ sb
       have H:=ifF hc82 H
       refine au 8 ?_
       obtain rfl:=sj H
       exact hJ83 _ sb
      intro z73 hz73 HX73 hJ73
      refine T.block ?_
      refine T.loopA (γ:=Unit) hz73 [(3,_),(4,_),(7,_),(12,_)] (fun (v93,v94) _=>[(13,.int .i64 v93)]) (fun (v93,v94) _=>Sat w [blk b1 [.int .i64 a0_p.g.w,.int .i64 a0_p.g.h,.slice p0 a0_p.g.tiles.length c0,.int .i64 a0_p.n,.int .i64 a0_p.kind,.int .i64 a0_p.to,.int .i64 a0_p.ticks,.int .i64 a0_p.many,.int .i64 a0_p.room] 60,row nilH 5 (rowV (some b4,(5 + x2).toNat) ((5 + x2).toNat)) (List.replicate (5 + x2).toNat (0:UInt8)),blk b6 [.int .i64 (5 + x2),.int .i64 1,rowV (some b4,(5 + x2).toNat) ((5 + x2).toNat)] 24,row nilH 5 (rowV q8 x7.1.g.tiles.length) x7.1.g.tiles,row nilH 135 (rowV q9 x7.1.bs.length) x7.1.bs,row nilH 54 (rowV q10 x7.1.us.length) x7.1.us,blk b11 [.int .i64 x7.1.tick,.int .i64 x7.1.players,.int .i64 x7.1.nextid,.int .i64 x7.1.g.w,.int .i64 x7.1.g.h,rowV q8 x7.1.g.tiles.length,rowV q9 x7.1.bs.length,rowV q10 x7.1.us.length] 52,Eng_ch g15 v94,row nilH 3 (rowV (some b27,3) 3) ([0,1,3]:List Int),dead,fz hh35,dead,dead,dead,dead,dead,dead,row nilH 45 (rowV q38 x37.1.length) x37.1,row nilH 5 (rowV q45 x44.g.tiles.length) x44.g.tiles,row nilH 135 (rowV q46 x44.bs.length) x44.bs,row nilH 54 (rowV q47 x44.us.length) x44.us,row nilH 5 (rowV q50 x49.g.tiles.length) x49.g.tiles,row nilH 135 (rowV q51 x49.bs.length) x49.bs,row nilH 54 (rowV (some gg54,cc55) x49.us.length) x49.us,blk b56 [.int .i64 ((gi x49.us (0:Int)).id),.int .i64 ((gi x49.us (0:Int)).owner),.int .i64 ((gi x49.us (0:Int)).kind),.int .i64 (((gi x49.us (0:Int)).pos).x),.int .i64 (((gi x49.us (0:Int)).pos).y),.int .i64 ((gi x49.us (0:Int)).goal),.int .i64 ((gi x49.us (0:Int)).next),.int .i64 ((gi x49.us (0:Int)).stuck),.int .i64 ((gi x49.us (0:Int)).inn),.int .i64 ((gi x49.us (0:Int)).state)] 54,dead,fz hh64,dead,dead,dead,dead,row nilH 45 (rowV q67 x66.1.length) x66.1]) () sb sb (fun w s=>s) ?_
      rintro ⟨v93,v94⟩ ⟨⟩ y95 H hd73 KL73 hL73
      try dsimp only [Ex.then] at H
      refine kq [13,3,4,7,12] ?_
      refine T.seq fun _ k30=>T.seq fun _ k31=>nz ?_
      refine T.region (au 2 ?_)
      obtain ⟨g96,H⟩:=gdE H
      refine rp (Pu.mulS rfl rfl g96) (rp (Pu.bin rfl rfl rfl) (RS.nil (k31 _ _ ?_)))
      refine T.cP H rfl (fun hc97 H=>?_) (fun hc97 H=>?_)
      ·refine T.skip (k30 _ _ (kq [3,4,7,12,13] ?_))
       refine T.seq fun _ k32=>T.block (T.seq fun _ k33=>nz ?_)
       refine T.region (rM rfl ?_)
       obtain ⟨x98,hx98,H⟩:=bindE H
       refine RS.solid (Sd.callF 7 ent18 rfl rfl (fun w s=>eng_Step_walk g15 v94 [] nilH (fun w s=>nilH_le _) ⟨none,0,rfl,by simp,by decide,.inl rfl⟩ hx98 w s)) rfl rfl fun q99=>au 4 ?_
       refine RS.nil (k33 _ _ (kq [3,4,6,7,12,13] ?_))
       refine T.seq fun _ k34=>nz ?_
       refine T.region (rM rfl ?_)
       obtain ⟨x100,hx100,H⟩:=bindE H
       refine rq (Qt.call (vs:=[_]) ent12 rfl fun w s=>throngtop_num_walk x98.2.1 w  hx100) (au 2 ?_)
       refine RS.joinB H 6 141 (fun b103=>.bool b103) [(3,_),(4,_),(7,_),(12,_),(13,_)] sb ?_ ?_
       ·intro b103 H
        refine RS.nil (k34 _ _ ?_)
        refine T.cB H rfl (fun _ H=>nomatch H) (fun hc104 H=>?_)
        refine T.skip (k32 _ _ ?_)
        refine nz ?_
        refine T.region (rM rfl ?_)
        obtain ⟨g105,H⟩:=gdE H
        refine rp (Pu.addS rfl rfl g105) (rA rfl (RS.nil (hL73 _ _ ((v93 + 1),x98.2.2) () H sb sb (fun w s=>s.pc [0,1,2,3,4,5,6,7,8,9,10,11,12,13,14,15,16,17,18,19,20,21,22,23,24,25,26,27,28,29,30,31]))))
       intro z106 H hJ102
       refine RS.splitP 135 rfl (fun hc101=>?_) (fun hc101=>?_)
       ·have H:=ifT hc101 H
        refine au 6 ?_
        obtain rfl:=sj H
        exact hJ102 _ _ sb (fun w s=>s)
       have H:=ifF hc101 H
       refine rM rfl ?_
       obtain ⟨x107,hx107,H⟩:=bindE H
       refine RS.solid (Sd.callF 7 ent19 rfl rfl (fun w s=>eng_World_walk g15 x98.2.2  hx107 w s)) rfl rfl fun ⟨q108,q109,q110⟩=>?_
       refine rp (Pu.fieldS (cs:=[_,_,_,_,_,_,_,_]) fld52_5 ty50.h rfl rfl) (au 3 ?_)
       obtain rfl:=sj H
       exact hJ102 _ _ sb (fun w s=>s.pc [0,1,2,3,4,5,6,7,8,9,10,11,12,13,14,15,16,17,18,19,20,21,22,23,24,25,26,27,28,29,30,31,32])
      obtain rfl:=hd73 _ H
      refine T.xt (hJ73 _ _ v94 () HX73 sb trivial (fun w s=>s))
     intro z111 H hJ70
     refine RS.splitP 115 rfl (fun hc69=>?_) (fun hc69=>?_)
     ·have H:=ifT hc69 H
      refine au 5 ?_
      obtain rfl:=sj H
      exact hJ70 _ _ sb (fun w s=>s)
     have H:=ifF hc69 H
     refine rM rfl (RS.solid (Sd.litS (cs:=[_,_]) sl65.h zr45 rfl rfl rfl rfl rfl) rfl rfl fun b112=>?_)
     refine RS.weakS (fun w s=>s.litRow (α:=Int) (n:=2) 32 ([0,0]:List Int) rfl (by decide) rfl ⟨[_],_,rfl,rfl,⟨[_],_,rfl,rfl,rfl⟩⟩) ?_
     obtain ⟨x113,hx113,H⟩:=bindE H
     refine rq (Qt.call (vs:=[_,_]) ent24 rfl fun w s=>throngref0_EqErrors_walk x66.1 ([0,0]:List Int) w ((Rd.ofRowN 31 rfl) w s) ((Rd.ofRowN 32 rfl) w s) hx113) (au 2 ?_)
     obtain rfl:=sj H
     exact hJ70 _ _ sb (fun w s=>s.pc [0,1,2,3,4,5,6,7,8,9,10,11,12,13,14,15,16,17,18,19,20,21,22,23,24,25,26,27,28,29,30,31])
    intro z114 H hJ58
    refine RD.splitP 94 rfl (fun hc57=>?_) (fun hc57=>?_)
    ·have H:=ifT hc57 H
     refine au 6 ?_
     obtain rfl:=sj H
     exact hJ58 _ sb
    have H:=ifF hc57 H
    refine au 3 ?_
    obtain ⟨x115,hx115,H⟩:=bindE H
    refine dq rfl (Qt.call (vs:=[_,_]) ent9 rfl fun w s=>throngref5_Center_walk (⟨(5 + x2),1,(List.replicate (5 + x2).toNat (0:UInt8))⟩:Grd) 0 w ((Rd.ofRowN 1 rfl) w s) hx115) (dp rfl (Pu.neSt eqt33 rfl rfl rfl (eq_Vec ((gi x49.us (0:Int)).pos) x115)) (dp rfl (Pu.pickF rfl rfl) ?_))
    obtain rfl:=sj H
    exact hJ58 _ sb
   intro z116 H hJ41
   refine RS.splitP 75 rfl (fun hc40=>?_) (fun hc40=>?_)
   ·have H:=ifT hc40 H
    refine au 5 ?_
    obtain rfl:=sj H
    exact hJ41 _ _ sb (fun w s=>s)
   have H:=ifF hc40 H
   refine rM rfl (RS.solid (Sd.litS (cs:=[_,_,_]) sl65.h zr45 rfl rfl rfl rfl rfl) rfl rfl fun b117=>?_)
   refine RS.weakS (fun w s=>s.litRow (α:=Int) (n:=3) 18 ([0,0,0]:List Int) rfl (by decide) rfl ⟨[_],_,rfl,rfl,⟨[_],_,rfl,rfl,⟨[_],_,rfl,rfl,rfl⟩⟩⟩) ?_
   obtain ⟨x118,hx118,H⟩:=bindE H
   refine rq (Qt.call (vs:=[_,_]) ent24 rfl fun w s=>throngref0_EqErrors_walk x37.1 ([0,0,0]:List Int) w ((Rd.ofRowN 17 rfl) w s) ((Rd.ofRowN 18 rfl) w s) hx118) (au 2 ?_)
   obtain rfl:=sj H
   exact hJ41 _ _ sb (fun w s=>s.pc [0,1,2,3,4,5,6,7,8,9,10,11,12,13,14,15,16,17])
  intro hJ21
  refine RS.split 40 rfl (fun hc20=>?_) (fun hc20=>?_)
  ·refine au 3 ?_
   exact hJ21 _ _ ⟨dOrT hc20,rfl,rfl,rfl,rfl,trivial⟩ (fun w s=>s)
  refine rM rfl (rp (Pu.eqNilO ul62 rfl) (rp (Pu.pickF rfl rfl) ?_))
  exact hJ21 _ _ ⟨dOrFB (bne_of hc20),rfl,rfl,rfl,rfl,trivial⟩ (fun w s=>s)
 intro z119 H hJ18
 refine RS.splitP 35 rfl (fun hc17=>?_) (fun hc17=>?_)
 ·have H:=ifT hc17 H
  refine au 4 ?_
  obtain rfl:=sj H
  exact hJ18 _ _ sb (fun w s=>s)
 have H:=ifF hc17 H
 refine rM rfl ?_
 obtain ⟨x120,hx120,H⟩:=bindE H
 refine rq (Qt.call (vs:=[_]) ent12 rfl fun w s=>throngtop_num_walk o14 w  hx120) (au 2 ?_)
 obtain rfl:=sj H
 exact hJ18 _ _ sb (fun w s=>s)
end Go.Proofs.YtmngdgclldkcfaaGreat
