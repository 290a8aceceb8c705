/-
  Texts of one's own, joined: YH XA.
-/
import Derived.Test.YtmngdgclldkcfaaGreatRows
import Derived.Test.YtmngdgclldkcfaaGreatJ6
import Derived.Test.YtmngdgclldkcfaaGreatJ7
import Derived.Test.YtmngdgclldkcfaaGreatJ12
import Derived.Test.YtmngdgclldkcfaaGreatJ13
import Derived.Test.YtmngdgclldkcfaaGreatTJ
import Derived.Test.YtmngdgclldkcfaaGreatJ4
import Derived.DeepKeys3
import Derived.WideKeyRuns
import Derived.Maps.RangeRun
set_option linter.unusedVariables false
set_option linter.unusedSimpArgs false
set_option maxRecDepth 20000
set_option maxHeartbeats 4000000
namespace Go.Proofs.YtmngdgclldkcfaaGreat
open Go.Vg
open Enc (R)
theorem ent181:Ent Tryz.prog 181:=en Tryz.func181
theorem ent182:Ent Tryz.prog 182:=en Tryz.func182
theorem ent239:Ent Tryz.prog 239:=en Tryz.func239
theorem ent240:Ent Tryz.prog 240:=en Tryz.func240
theorem ent241:Ent Tryz.prog 241:=en Tryz.func241
theorem st266:stTy Tryz.prog 266 = some ([.int .i64 0,.int .i64 0],[(0,1),(1,1)]):=by kernel_rfl
instance ty266:TyC Tryz.prog 266 (2,true):={}
theorem zr266:zeroOf Tryz.prog 266 = some (.agg #[.int .i64 0,.int .i64 0]):=by kernel_rfl
theorem cmp_Less_walk (a0_x:Int) (a1_y:Int) (w:World) {r:Bool} (H:cmp_Less a0_x a1_y = some r):Calls Tryz.prog 240 #[.int .i64 a0_x,.int .i64 a1_y] w fun e w'=>e = .returned (.bool r)∧Ext w w':=by
 unfold cmp_Less at H
 refine te Tryz.func240 (Sat.start w) ?_
 refine au 2 ?_
 refine T.seq fun _ k2=>T.region (rM rfl ?_)
 obtain ⟨x1,hx1,H⟩:=bindE H
 refine rq (Qt.call (vs:=[_]) ent254 rfl fun w s=>cmp_isNaN_walk a0_x w  hx1) (rM rfl ?_)
 refine RS.joinB H 4 11 (fun b4=>.bool b4) [(0,_),(1,_),(4,_)] sb ?_ ?_
 ·intro b4 H
  refine rM rfl ?_
  refine RS.joinV 4 16 (.bool (decide ((b4 = true) ∨ (a0_x < a1_y)))) [(4,_)] sb ?_ ?_
  ·refine rA rfl (RS.nil (k2 _ _ ?_))
   obtain rfl:=sj H
   refine T.rt (Cont.ret1 rfl rfl fun w' s=>?_)
   exact ⟨rfl,s.ext⟩
  intro hJ6
  refine RS.split 12 rfl (fun hc5=>?_) (fun hc5=>?_)
  ·refine au 4 ?_
   exact hJ6 _ _ ⟨dOrT hc5,rfl,trivial⟩ (fun w s=>s)
  refine au 4 ?_
  exact hJ6 _ _ ⟨dOrF (bne_of hc5),rfl,trivial⟩ (fun w s=>s)
 intro z7 H hJ3
 refine RS.split 7 rfl (fun hc2=>?_) (fun hc2=>?_)
 ·have H:=ifT hc2 H
  refine rM rfl ?_
  obtain ⟨x8,hx8,H⟩:=bindE H
  refine rq (Qt.call (vs:=[_]) ent254 rfl fun w s=>cmp_isNaN_walk a1_y w  hx8) (au 2 ?_)
  obtain rfl:=sj H
  exact hJ3 _ _ sb (fun w s=>s)
 have H:=ifB hc2 H
 refine au 4 ?_
 obtain rfl:=sj H
 exact hJ3 _ _ sb (fun w s=>s)
theorem slices_isNaN_walk (a0_x:Int) (w:World) {r:Bool} (H:slices_isNaN a0_x = some r):Calls Tryz.prog 241 #[.int .i64 a0_x] w fun e w'=>e = .returned (.bool r)∧Ext w w':=by
 unfold slices_isNaN at H
 refine te Tryz.func241 (Sat.start w) ?_
 refine au 2 ?_
 refine T.seq fun _ k2=>T.region (au 4 ?_)
 refine RS.nil (k2 _ _ (kq [2] ?_))
 obtain rfl:=sj H
 refine T.rt (Cont.ret1 rfl rfl fun w' s=>?_)
 exact ⟨rfl,s.ext⟩
theorem cells_down_walk (a0_a:Int) (w:World) {r:Int} (H:cells_down a0_a = some r):Calls Tryz.prog 239 #[.int .i64 a0_a] w fun e w'=>e = .returned (.int .i64 r)∧Ext w w':=by
 unfold cells_down at H
 refine te Tryz.func239 (Sat.start w) ?_
 refine au 2 ?_
 refine T.seq fun _ k2=>T.region (rM rfl ?_)
 obtain ⟨x1,hx1,H⟩:=bindE H
 refine rq (Qt.call (vs:=[_]) ent283 rfl fun w s=>fixed_Norm_walk a0_a w  hx1) (rA rfl (RS.nil (k2 _ _ (kq [0] ?_))))
 refine T.seq fun _ k3=>au 3 ?_
 refine T.cP H rfl (fun hc2 H=>?_) (fun hc2 H=>?_)
 ·refine T.seq fun _ k5=>T.region (rM rfl ?_)
  obtain ⟨g3,H⟩:=gdE H
  refine rp (Pu.negS rfl g3) ?_
  obtain ⟨g4,H⟩:=gdE H
  refine rp (Pu.subS rfl rfl g4) ?_
  obtain ⟨g5,H⟩:=gdE H
  refine rp (Pu.quoN rfl rfl ⟨g5.1,g5.2,by decide⟩) ?_
  obtain ⟨g6,H⟩:=gdE H
  refine rp (Pu.addS rfl rfl g6) ?_
  obtain ⟨g7,H⟩:=gdE H
  refine rp (Pu.negS rfl g7) (rA rfl (RS.nil (k5 _ _ (kq [2] ?_))))
  obtain rfl:=sj H
  refine T.rt (Cont.ret1 rfl rfl fun w' s=>?_)
  exact ⟨rfl,s.ext⟩
 refine T.skip (k3 _ _ ?_)
 refine T.seq fun _ k6=>T.region (rM rfl ?_)
 obtain ⟨g8,H⟩:=gdE H
 refine rp (Pu.quoN rfl rfl ⟨g8.1,g8.2,by decide⟩) (rA rfl (RS.nil (k6 _ _ (kq [2] ?_))))
 obtain rfl:=sj H
 refine T.rt (Cont.ret1 rfl rfl fun w' s=>?_)
 exact ⟨rfl,s.ext⟩
theorem cells_of_walk (a0_p:Vec) (w:World) {r:Cel} (H:cells_of a0_p = some r):Calls Tryz.prog 172 #[.agg #[.int .i64 a0_p.x,.int .i64 a0_p.y]] w fun e w'=>e = .returned (.agg #[.int .i64 r.x,.int .i64 r.y])∧Ext w w':=by
 unfold cells_of at H
 refine te Tryz.func172 (Sat.start w) ?_
 refine T.seq fun _ k1=>T.region (RS.solid (Sd.box (cs:=[_,_]) rfl rfl) rfl rfl fun b1=>RS.solid (Sd.alloc zr266 rfl) rfl rfl fun b2=>RS.nil (k1 _ _ ?_))
 refine T.seq fun _ k2=>dr mixed [0,1,1,0,1,1,0,4] ?_
 refine au 2 ?_
 obtain ⟨x3,hx3,H⟩:=bindE H
 refine dq rfl (Qt.call (vs:=[_]) ent239 rfl fun w s=>cells_down_walk a0_p.x w  hx3) (au 2 ?_)
 obtain ⟨x4,hx4,H⟩:=bindE H
 refine dq rfl (Qt.call (vs:=[_]) ent239 rfl fun w s=>cells_down_walk a0_p.y w  hx4) (dp rfl (Pu.build (cells:=[_,_]) st266 rfl rfl) (RD.solid rfl (.inr rfl) rfl rfl (Sd.stB (cs':=[_,_]) 1 ty266.h rfl rfl rfl rfl rfl rfl rfl rfl) (fun _=>ClE.sat _ _) (fun _ _ _=>trivial) (fun h=>nomatch h) fun _=>?_))
 refine RD.nil (k2 _ _ (kq [2] ?_))
 obtain rfl:=sj H
 refine T.rt (Cont.retC 1 rfl ty266.h rfl rfl rfl fun w' s=>?_)
 exact ⟨rfl,s.ext⟩
theorem slices_BinarySearch_walk (a0_x:List Int) (a1_target:Int) (w:World) {v0:Value} (h0:R (hpOf w) a0_x [v0]) {r:Int × Bool} (H:slices_BinarySearch a0_x a1_target = some r):Calls Tryz.prog 173 #[v0,.int .i64 a1_target] w fun e w'=>e = .returned (.tuple #[.int .i64 r.1,.bool r.2])∧Ext w w':=by
 have hm0:=R_max h0
 obtain ⟨p0,c0,rfl⟩:=R_form h0
 unfold slices_BinarySearch at H
 refine te Tryz.func173 (Sat.start w) ?_
 refine au 3 ?_
 refine T.seq fun _ k2=>T.region (au 3 ?_)
 refine RS.nil (k2 _ _ (kq [0,1,6] ?_))
 refine au 4 ?_
 refine T.joinA (σ:=Int) (γ:=Unit) H (fun s=>s) [(0,_),(1,_),(6,_)] sb (fun v2 _=>[(7,.int .i64 v2)]) (fun v2 _=>Sat w []) ?_ ?_
 ·rintro v2 ⟨⟩ H
  try dsimp only [Ex.then] at H
  refine kq [7,0,1,6] ?_
  refine T.seq fun _ k5=>T.region (au 5 ?_)
  refine RS.joinB H 18 53 (fun b5=>.bool b5) [(31,_)] sb ?_ ?_
  ·intro b5 H
   refine au 2 ?_
   refine RS.nil (k5 _ _ ?_)
   obtain rfl:=sj H
   refine T.rt (Cont.ret2 rfl rfl rfl fun w' s=>?_)
   exact ⟨rfl,s.ext⟩
  intro z6 H hJ4
  refine RS.splitP 35 rfl (fun hc3=>?_) (fun hc3=>?_)
  ·have H:=ifT hc3 H
   refine au 2 ?_
   obtain ⟨g7,H⟩:=gdE H
   obtain ⟨bl8,ol9,rfl⟩:=R_ptr h0 (ne_of_pos (pos_of g7))
   refine rp (Pu.indexSl sl35.h rfl rfl g7) (rq (Qt.ld0 (α:=Int) (Rd.base h0) ty3.h rfl rfl g7 (by rintro _ _ rfl; rfl)) (au 3 ?_))
   refine RS.joinB H 10 52 (fun b12=>.bool b12) [(0,_),(1,_),(6,_),(7,_),(31,_),(32,_),(33,_),(34,_),(35,_),(36,_),(37,_),(38,_),(39,_),(40,_),(41,_)] sb ?_ ?_
   ·intro b12 H
    refine rp (Pu.pickT rfl rfl) ?_
    obtain rfl:=sj H
    exact hJ4 _ _ sb (fun w s=>s)
   intro z13 H hJ11
   refine RS.splitP 42 rfl (fun hc10=>?_) (fun hc10=>?_)
   ·have H:=ifT hc10 H
    refine au 10 ?_
    obtain rfl:=sj H
    exact hJ11 _ _ sb (fun w s=>s)
   have H:=ifF hc10 H
   refine au 2 ?_
   obtain ⟨g14,H⟩:=gdE H
   refine rp (Pu.indexSl sl35.h rfl rfl g14) (rq (Qt.ld0 (α:=Int) (Rd.base h0) ty3.h rfl rfl g14 (by rintro _ _ rfl; rfl)) ?_)
   obtain ⟨x15,hx15,H⟩:=bindE H
   refine rq (Qt.call (vs:=[_]) ent241 rfl fun w s=>slices_isNaN_walk (gi a0_x v2) w  hx15) (rM rfl ?_)
   refine RS.joinB H 3 51 (fun b18=>.bool b18) [(0,_),(1,_),(6,_),(7,_),(31,_),(32,_),(33,_),(34,_),(35,_),(36,_),(37,_),(38,_),(39,_),(40,_),(41,_),(42,_),(43,_),(44,_),(45,_),(46,_),(47,_)] sb ?_ ?_
   ·intro b18 H
    refine rp (Pu.pickF rfl rfl) ?_
    obtain rfl:=sj H
    exact hJ11 _ _ sb (fun w s=>s)
   intro z19 H hJ17
   refine RS.split 48 rfl (fun hc16=>?_) (fun hc16=>?_)
   ·have H:=ifT hc16 H
    refine rM rfl ?_
    obtain ⟨x20,hx20,H⟩:=bindE H
    refine rq (Qt.call (vs:=[_]) ent241 rfl fun w s=>slices_isNaN_walk a1_target w  hx20) (rp (Pu.pickT rfl rfl) ?_)
    obtain rfl:=sj H
    exact hJ17 _ _ sb (fun w s=>s)
   have H:=ifB hc16 H
   refine au 3 ?_
   obtain rfl:=sj H
   exact hJ17 _ _ sb (fun w s=>s)
  have H:=ifF hc3 H
  refine au 18 ?_
  obtain rfl:=sj H
  exact hJ4 _ _ sb (fun w s=>s)
 intro z1 hz1 HX1 K4 hJ1
 refine T.block ?_
 refine T.loopA (γ:=Unit) hz1 [(0,_),(1,_),(6,_)] (fun (v21,v22) _=>[(7,.int .i64 v21),(8,.int .i64 v22)]) (fun (v21,v22) _=>Sat w []) () sb sb (fun w s=>s) ?_
 rintro ⟨v21,v22⟩ ⟨⟩ y23 H hd1 KL1 hL1
 try dsimp only [Ex.then] at H
 refine kq [7,8,0,1,6] ?_
 refine T.seq fun _ k6=>au 4 ?_
 refine T.cP H rfl (fun hc24 H=>?_) (fun hc24 H=>?_)
 ·refine T.skip (k6 _ _ (kq [0,1,6,7,8] ?_))
  refine T.block (T.seq fun _ k8=>T.region (au 2 ?_))
  obtain ⟨g25,H⟩:=gdE H
  refine rp (Pu.addS rfl rfl g25) (rp (Pu.convUW us3 ul80 rfl) ?_)
  obtain ⟨g26,H⟩:=gdE H
  refine rp (Pu.shr1 rfl rfl g26) ?_
  obtain ⟨g27,H⟩:=gdE H
  refine rp (Pu.convS us80 ul3 rfl g27) (rA rfl (RS.nil (k8 _ _ (kq [0,1,6,7,8,9] ?_))))
  refine T.seq fun _ k9=>T.region (au 2 ?_)
  obtain ⟨g28,H⟩:=gdE H
  obtain ⟨bl29,ol30,rfl⟩:=R_ptr h0 (ne_of_pos (pos_of g28))
  refine rp (Pu.indexSl sl35.h rfl rfl g28) (rq (Qt.ld0 (α:=Int) (Rd.base h0) ty3.h rfl rfl g28 (by rintro _ _ rfl; rfl)) (rM rfl ?_))
  obtain ⟨x31,hx31,H⟩:=bindE H
  refine rq (Qt.call (vs:=[_,_]) ent240 rfl fun w s=>cmp_Less_walk (gi a0_x (((v21 + v22) % 18446744073709551616) / 2)) a1_target w  hx31) (RS.nil (k9 _ _ ?_))
  refine T.cB H rfl (fun hc32 H=>?_) (fun hc32 H=>?_)
  ·refine kq [0,1,6,8,9] ?_
   refine T.region (rM rfl ?_)
   obtain ⟨g33,H⟩:=gdE H
   refine rp (Pu.addS rfl rfl g33) (rA rfl (RS.nil (hL1 _ _ (((((v21 + v22) % 18446744073709551616) / 2) + 1),v22) () H sb sb (fun w s=>s))))
  refine kq [0,1,6,7,9] ?_
  refine T.region (au 2 ?_)
  refine RS.nil (hL1 _ _ (v21,(((v21 + v22) % 18446744073709551616) / 2)) () H sb sb (fun w s=>s))
 obtain rfl:=hd1 _ H
 refine T.xt (hJ1 _ _ v21 () HX1 sb sb (fun w s=>s))
theorem army_At_1_walk (a0_u:Unt) (a1_id:Int) (w:World) {r:Int} (H:army_At_1 a0_u a1_id = some r):Calls Tryz.prog 182 #[.agg #[.int .i64 a0_u.id,.int .i64 a0_u.owner,.int .i64 a0_u.kind,.int .i64 a0_u.pos.x,.int .i64 a0_u.pos.y,.int .i64 a0_u.goal,.int .i64 a0_u.next,.int .i64 a0_u.stuck,.int .i64 a0_u.inn,.int .i64 a0_u.state],.int .i64 a1_id] w fun e w'=>e = .returned (.int .i64 r)∧Ext w w':=by
 unfold army_At_1 at H
 refine te Tryz.func182 (Sat.start w) ?_
 refine T.seq fun _ k1=>T.region (RS.solid (Sd.box (cs:=[_,_,_,_,_,_,_,_,_,_]) rfl rfl) rfl rfl fun b1=>rA rfl (RS.nil (k1 _ _ ?_)))
 refine T.seq fun _ k2=>T.region (au 3 ?_)
 obtain ⟨x2,hx2,H⟩:=bindE H
 refine rq (Qt.call (vs:=[_,_]) ent183 rfl fun w s=>cmp_Compare_walk a0_u.id a1_id w  hx2) (rA rfl (RS.nil (k2 _ _ (kq [4] ?_))))
 obtain rfl:=sj H
 refine T.rt (Cont.ret1 rfl rfl fun w' s=>?_)
 exact ⟨rfl,s.ext⟩
theorem slices_BinarySearchFuncU_walk (a0_x:List Unt) (a1_target:Int) (a2_cmp:(Unt × Int)→Option Int) (w:World) {v0 v1:Value} (h0:R (hpOf w) a0_x [v0]) (h1:FnQ Tryz.prog w v1 (fun (z:Unt × Int)=>[.agg #[.int .i64 z.1.id,.int .i64 z.1.owner,.int .i64 z.1.kind,.int .i64 z.1.pos.x,.int .i64 z.1.pos.y,.int .i64 z.1.goal,.int .i64 z.1.next,.int .i64 z.1.stuck,.int .i64 z.1.inn,.int .i64 z.1.state],.int .i64 z.2]) (fun (r:Int)=>.int .i64 r) a2_cmp) {r:Int × Bool} (H:slices_BinarySearchFuncU a0_x a1_target a2_cmp = some r):Calls Tryz.prog 181 #[v0,.int .i64 a1_target,v1] w fun e w'=>e = .returned (.tuple #[.int .i64 r.1,.bool r.2])∧Ext w w':=by
 have hm0:=R_max h0
 obtain ⟨p0,c0,rfl⟩:=R_form h0
 unfold slices_BinarySearchFuncU at H
 refine te Tryz.func181 (Sat.start w) ?_
 refine au 3 ?_
 refine T.seq fun _ k2=>T.region (au 3 ?_)
 refine RS.nil (k2 _ _ (kq [0,1,2,8] ?_))
 refine au 4 ?_
 refine T.joinA (σ:=Int) (γ:=Unit) H (fun s=>s) [(0,_),(1,_),(2,_),(8,_)] sb (fun v2 _=>[(9,.int .i64 v2)]) (fun v2 _=>Sat w []) ?_ ?_
 ·rintro v2 ⟨⟩ H
  try dsimp only [Ex.then] at H
  refine kq [9,0,1,2,8] ?_
  refine T.seq fun _ k5=>T.region (au 5 ?_)
  refine RS.joinB H 9 48 (fun b5=>.bool b5) [(35,_)] sb ?_ ?_
  ·intro b5 H
   refine au 2 ?_
   refine RS.nil (k5 _ _ ?_)
   obtain rfl:=sj H
   refine T.rt (Cont.ret2 rfl rfl rfl fun w' s=>?_)
   exact ⟨rfl,s.ext⟩
  intro z6 H hJ4
  refine RS.splitP 39 rfl (fun hc3=>?_) (fun hc3=>?_)
  ·have H:=ifT hc3 H
   refine au 3 ?_
   obtain ⟨g7,H⟩:=gdE H
   obtain ⟨bl8,ol9,rfl⟩:=R_ptr h0 (ne_of_pos (pos_of g7))
   refine rp (Pu.indexSl sl50.h rfl rfl g7) (rq (Qt.ldW (α:=Unt) (cs:=[_,_,_,_,_,_,_,_,_,_]) (Rd.base h0) ty54.h rfl rfl g7 rfl (by rintro _ _ rfl; rfl)) (rM rfl ?_))
   obtain ⟨x10,hx10,H⟩:=bindE H
   refine rq (Qt.callV rfl h1 (fun w s=>s.ext) hx10 rfl) (au 2 ?_)
   obtain rfl:=sj H
   exact hJ4 _ _ sb (fun w s=>s)
  have H:=ifF hc3 H
  refine au 9 ?_
  obtain rfl:=sj H
  exact hJ4 _ _ sb (fun w s=>s)
 intro z1 hz1 HX1 K4 hJ1
 refine T.block ?_
 refine T.loopA (γ:=Unit) hz1 [(0,_),(1,_),(2,_),(8,_)] (fun (v11,v12) _=>[(9,.int .i64 v11),(10,.int .i64 v12)]) (fun (v11,v12) _=>Sat w []) () sb sb (fun w s=>s) ?_
 rintro ⟨v11,v12⟩ ⟨⟩ y13 H hd1 KL1 hL1
 try dsimp only [Ex.then] at H
 refine kq [9,10,0,1,2,8] ?_
 refine T.seq fun _ k6=>au 4 ?_
 refine T.cP H rfl (fun hc14 H=>?_) (fun hc14 H=>?_)
 ·refine T.skip (k6 _ _ (kq [0,1,2,8,9,10] ?_))
  refine T.block (T.seq fun _ k8=>T.region (au 2 ?_))
  obtain ⟨g15,H⟩:=gdE H
  refine rp (Pu.addS rfl rfl g15) (rp (Pu.convUW us3 ul80 rfl) ?_)
  obtain ⟨g16,H⟩:=gdE H
  refine rp (Pu.shr1 rfl rfl g16) ?_
  obtain ⟨g17,H⟩:=gdE H
  refine rp (Pu.convS us80 ul3 rfl g17) (rA rfl (RS.nil (k8 _ _ (kq [0,1,2,8,9,10,11] ?_))))
  refine T.seq fun _ k9=>T.region (au 3 ?_)
  obtain ⟨g18,H⟩:=gdE H
  obtain ⟨bl19,ol20,rfl⟩:=R_ptr h0 (ne_of_pos (pos_of g18))
  refine rp (Pu.indexSl sl50.h rfl rfl g18) (rq (Qt.ldW (α:=Unt) (cs:=[_,_,_,_,_,_,_,_,_,_]) (Rd.base h0) ty54.h rfl rfl g18 rfl (by rintro _ _ rfl; rfl)) (rM rfl ?_))
  obtain ⟨x21,hx21,H⟩:=bindE H
  refine rq (Qt.callV rfl h1 (fun w s=>s.ext) hx21 rfl) (rp (Pu.bin rfl rfl rfl) (RS.nil (k9 _ _ ?_)))
  refine T.cP H rfl (fun _ H=>nomatch H) (fun hc22 H=>?_)
  refine kq [0,1,2,8,9,11] ?_
  refine T.region (au 2 ?_)
  refine RS.nil (hL1 _ _ (v11,(((v11 + v12) % 18446744073709551616) / 2)) () H sb sb (fun w s=>s))
 obtain rfl:=hd1 _ H
 refine T.xt (hJ1 _ _ v11 () HX1 sb sb (fun w s=>s))
theorem army_At_walk (a0_l:List Unt) (a1_id:Int) (w:World) {v0:Value} (h0:R (hpOf w) a0_l [v0]) {r:Int × Bool} (H:army_At a0_l a1_id = some r):Calls Tryz.prog 123 #[v0,.int .i64 a1_id] w fun e w'=>e = .returned (.tuple #[.int .i64 r.1,.bool r.2])∧Ext w w':=by
 have hm0:=R_max h0
 obtain ⟨p0,c0,rfl⟩:=R_form h0
 unfold army_At at H
 refine te Tryz.func123 (Sat.start w) ?_
 refine au 3 ?_
 refine T.seq fun _ k2=>T.region (au 2 ?_)
 obtain ⟨x1,hx1,H⟩:=bindE H
 refine rq (Qt.call (vs:=[_,_,_]) ent181 rfl fun w s=>slices_BinarySearchFuncU_walk a0_l a1_id (fun (y0,y1)=>army_At_1 y0 y1) w ((Rd.base h0) w s) (⟨182,_,rfl,ent182,fun ⟨y0,y1⟩ r w' he hr=>army_At_1_walk y0 y1 w'  hr⟩) hx1) (au 4 ?_)
 refine RS.nil (k2 _ _ (kq [4,5] ?_))
 obtain rfl:=sj H
 refine T.rt (Cont.ret2 rfl rfl rfl fun w' s=>?_)
 exact ⟨rfl,s.ext⟩
end Go.Proofs.YtmngdgclldkcfaaGreat
set_option linter.unusedVariables false
set_option linter.unusedSimpArgs false
set_option linter.unusedSectionVars false
namespace Go.Vg
open Go Go.MapKept
open Classical
def mapE (b:Nat) (L:List (Value × Value)):Ch:=fun h=>∃ es clock,h b = some (.map es clock)∧es.toList.map (fun e=>(e.key,e.val)) = L∧∀ e ∈ es.toList,e.born < clock
structure KeyT (P:Program) (kt:TypeId) (K:Value→Prop):Prop where
  ck:∀ em k w,K k→(Instr.checkKey em 10000 kt k).run P w = .ok () w
  eq:∀ k e w,K k→K e.key→(Instr.findKey kt k [e]).run P w = .ok (if k = e.key then some (0,e.val) else none) w
def IntK (v:Value):Prop:=∃ i:Int,v = .int .i64 i
def TwoK (v:Value):Prop:=∃ x y:Int,v = .agg #[.int .i64 x,.int .i64 y]
section
variable {P:Program} {kt:TypeId} {K:Value→Prop}
theorem KeyT.nil (h:KeyT P kt K) {d:TypeDesc} (hd:P.underlying kt = some d) (k:Value) (w:World):(Instr.findKey kt k []).run P w = .ok none w:=by
 simp [Instr.findKey,run_underlying hd,Result.andThen,Instr.findNow]
theorem KeyT.int (h:P.underlying kt = some (.int .i64)):KeyT P kt IntK:=by
 refine ⟨fun em k w ⟨i,hk⟩=>?_,fun k e w ⟨i,hk⟩ ⟨j,he⟩=>?_⟩
 ·rw [hk]; exact Go.MapKept.run_checkKey h (by simp [IsKey]) _ _
 ·have hf:Instr.findNow (.int .i64) k [e] 0 = some (if k = e.key then some (0,e.val) else none):=by
   simp only [Instr.findNow,hk,he,Instr.sameNow,if_true]
   by_cases c:i = j
   ·subst c; simp
   ·have:(i == j) = false:=by simp [c]
    simp [this,c]
  exact Go.MapKept.run_findKey h hf
def twoTy (P:Program) (t:TypeId):Bool:=(match P.underlying t with
  | some (.struct fs)=>match fs.toList with
    | [f,g]=>f.name != "_" && g.name != "_" && f.offset == 0 && g.offset == 1 && (match P.underlying f.type,P.underlying g.type with | some (.int .i64),some (.int .i64)=>true | _,_=>false) && tySz P f.type == some (1,false) && tySz P g.type == some (1,false)
    | _=>false
  | _=>false) && eqTy2 P t == some [(0,none),(1,none)]
theorem KeyT.two (h:twoTy P kt = true):KeyT P kt TwoK:=by
 unfold twoTy at h
 rw [Bool.and_eq_true,beq_iff_eq] at h
 obtain ⟨h1,h2⟩:=h
 split at h1
 ·rename_i fs hu
  split at h1
  ·rename_i f g hfs
   simp only [Bool.and_eq_true,bne_iff_ne,beq_iff_eq] at h1
   obtain ⟨⟨⟨⟨⟨⟨n1,n2⟩,o1⟩,o2⟩,hi⟩,s1⟩,s2⟩:=h1
   split at hi
   ·rename_i u1 u2
    refine ⟨fun em k w ⟨x,y,hk⟩=>?_,fun k e w ⟨x,y,hk⟩ ⟨x',y',he⟩=>?_⟩
    ·have hfs':fs = #[f,g]:=by cases fs; simp_all
     have p1:(part f.type #[.int .i64 x,.int .i64 y] f.offset).run P w = .ok (.int .i64 x) w:=by simp [part,run_isAgg_of s1,o1]
     have p2:(part g.type #[.int .i64 x,.int .i64 y] g.offset).run P w = .ok (.int .i64 y) w:=by simp [part,run_isAgg_of s2,o2]
     have c1:(Instr.checkKey em 9999 f.type (.int .i64 x)).run P w = .ok () w:=by unfold Instr.checkKey; simp [run_underlying u1,Result.andThen]
     have c2:(Instr.checkKey em 9999 g.type (.int .i64 y)).run P w = .ok () w:=by unfold Instr.checkKey; simp [run_underlying u2,Result.andThen]
     rw [hk]
     unfold Instr.checkKey
     simp [run_underlying hu,Result.andThen,hfs',n1,n2,p1,p2,c1,c2]
    ·have hw:(match P.underlying kt with | some (.array _ _) | some (.struct _)=>true | _=>false) = true:=by rw [hu]
     rw [run_findKey_eq w hw]
     have hq:=eqTy2_run (P:=P) (xs:=[.int .i64 x,.int .i64 y]) (ys:=[.int .i64 x',.int .i64 y']) h2 (r:=(x == x') && ((y == y') && true)) (by simp [eqAt2]) w
     have he2:(Op.equal kt k e.key).run P w = .ok ((x == x') && ((y == y') && true)) w:=by
      rw [hk,he]
      exact hq.2
     simp only [Instr.findAsking,Sem.run_bind,he2,Result.andThen_ok]
     by_cases c:k = e.key
     ·rw [if_pos c]
      rw [hk,he] at c
      injection c with c
      simp at c
      simp [c.1,c.2]
     ·rw [if_neg c]
      have:((x == x') && ((y == y') && true)) = false:=by
       rw [Bool.eq_false_iff]
       intro hq
       simp at hq
       exact c (by rw [hk,he,hq.1,hq.2])
      rw [this]; rfl
   ·cases hi
  ·cases h1
 ·cases h1
end
section
variable {P:Program} {n:Nat} {fr:Fr} {dst:Option Tmp} {ty:TypeId} {pos:String} {aft:Array Edge} {g:Option (Nat × Bool)} {S:As} {w0:World} {G:List Ch}
theorem Sat.getMapE {w:World} {k b:Nat} {L:List (Value × Value)} (h:Sat w0 G w) (hk:G[k]? = some (mapE b L)) :
  ∃ es clock,w.heap[b]? = some (.map es clock)∧es.toList.map (fun e=>(e.key,e.val)) = L∧∀ e ∈ es.toList,e.born < clock:=by
 obtain ⟨p,⟨es,clock,h1,h2⟩,hl,_⟩:=h.get k hk
 exact ⟨es,clock,hl _ _ h1,h2⟩
theorem Sat.setMapE {w:World} {k b:Nat} {L L':List (Value × Value)} (s:Sat w0 G w) (hk:G[k]? = some (mapE b L)) {es:Array MapEntry} {clock:Nat}
  (h2:es.toList.map (fun e=>(e.key,e.val)) = L') (h3:∀ e ∈ es.toList,e.born < clock):Sat w0 (G.set k (mapE b L')) { w with heap:=w.heap.setIfInBounds b (.map es clock) }:=by
 refine s.turn k hk _ rfl rfl rfl (by simp) fun p hp hl hb=>?_
 obtain ⟨es0,c0,e0,_⟩:=hp
 have hbw:=hl _ _ e0
 obtain ⟨g1,g2⟩:=heap_set (o':=.map es clock) (show w.heap[b]? = some _ from hbw)
 refine ⟨fun c hc hn=>g2 c (fun e'=>by rw [e',e0] at hn; cases hn),fun c=>if c = b then some (.map es clock) else p c,⟨es,clock,by simp,h2,h3⟩,fun c o hc=>?_⟩
 dsimp only at hc
 split at hc
 ·rename_i hcb; subst hcb; cases hc
  exact ⟨.inl (by rw [e0]; simp),g1⟩
 ·rename_i hcb
  exact ⟨.inl (by rw [hc]; simp),by show (w.heap.setIfInBounds b (.map es clock))[c]? = _; rw [g2 c hcb]; exact hl _ _ hc⟩
theorem Sd.makeMapE {t:TypeId}:Sd P n ⟨dst,.makeMap t none,ty,pos,aft,g⟩ fr (Sat w0 G) (fun b:Nat=>.map (some b)) (fun b=>Sat w0 (G ++ [mapE b []])):=fun a w k s=>by
 have:(execOp a.eval ⟨dst,.makeMap t none,ty,pos,aft,g⟩).run P w = .ok (.value (.map (some w.heap.size))) (w.alloc (.map #[] 0)):=by
  simp [execOp,Instr.makeMap]
 rw [this]
 refine ⟨w.heap.size,rfl,s.new (Ext.alloc w _) _ (fun b=>if b = w.heap.size then some (.map #[] 0) else none) ⟨#[],0,by simp,rfl,by simp⟩ (fun b o hb=>?_) (fun b o hb=>?_)⟩
 ·dsimp only at hb
  split at hb
  ·rename_i hb'; subst hb'; cases hb
   exact (heap_alloc w _).1
  ·cases hb
 ·split at hb
  ·omega
  ·cases hb
def mpT (P:Program) (t:TypeId) (kt:TypeId) (z:Value):Prop:=∃ e i d,P.underlying t = some (.map kt e)∧P.underlying kt = some d∧P.info? e = some i∧i.zero = some z
noncomputable def at1 (L:List (Value × Value)) (k:Value):Option Value:=match L with
  | []=>none
  | (a,v) :: _=>if k = a then some v else none
theorem findE {kt:TypeId} {K:Value→Prop} (hK:KeyT P kt K) {d:TypeDesc} (hd:P.underlying kt = some d) {k:Value} (h:K k) {L:List (Value × Value)} (hL:∀ e ∈ L,K e.1) (h1:L.length ≤ 1) {es:Array MapEntry} (he:es.toList.map (fun e=>(e.key,e.val)) = L) (w:World) :
  (Instr.findKey kt k es.toList).run P w = .ok ((at1 L k).map fun v=>(0,v)) w:=by
 cases hes:es.toList with
 | nil=>rw [hes] at he; subst he; exact hK.nil hd k w
 | cons e r =>
  rw [hes] at he
  subst he
  cases r with
  | cons a r=>simp at h1
  | nil =>
   rw [hK.eq k e w h (hL (e.key,e.val) (by simp))]
   simp only [at1,List.map_cons]
   split <;> rfl
theorem Qt.lookupE (i:Nat) {t kt:TypeId} {z:Value} {K:Value→Prop} {x y:Operand} {b:Nat} {L:List (Value × Value)} {k:Value} (ht:mpT P t kt z) (hK:KeyT P kt K) (hx:ev fr x = some (.map (some b))) (hy:ev fr y = some k) (hk:G[i]? = some (mapE b L)) (h:K k) (hL:∀ e ∈ L,K e.1) (h1:L.length ≤ 1) :
  Qt P n ⟨dst,.lookup t x y false,ty,pos,aft,g⟩ fr (Sat w0 G) ((at1 L k).getD z):=fun a w kn s=>by
 obtain ⟨e,inf,d,u1,u2,u3,u4⟩:=ht
 obtain ⟨es,clock,e1,e2,e3⟩:=s.getMapE hk
 have hr:(execOp a.eval ⟨dst,.lookup t x y false,ty,pos,aft,g⟩).run P w = .ok (.value ((at1 L k).getD z)) w:=by
  have hf:=findE hK u2 h hL h1 e2 w
  cases hq:at1 L k with
  | none=>rw [hq] at hf; simp [execOp,kn.ev hx,kn.ev hy,Instr.lookup,run_underlying u1,Go.MapKept.run_getObj_map e1,hK.ck _ _ _ h,hf,zeroValue,typeInfo,u3,u4,Result.andThen]
  | some v=>rw [hq] at hf; simp [execOp,kn.ev hx,kn.ev hy,Instr.lookup,run_underlying u1,Go.MapKept.run_getObj_map e1,hK.ck _ _ _ h,hf,Result.andThen]
 rw [hr]; exact ⟨Ext.refl w,rfl⟩
theorem Qt.lookupE2 (i:Nat) {t kt:TypeId} {z:Value} {K:Value→Prop} {x y:Operand} {b:Nat} {L:List (Value × Value)} {k:Value} (ht:mpT P t kt z) (hK:KeyT P kt K) (hx:ev fr x = some (.map (some b))) (hy:ev fr y = some k) (hk:G[i]? = some (mapE b L)) (h:K k) (hL:∀ e ∈ L,K e.1) (h1:L.length ≤ 1) :
  Qt P n ⟨dst,.lookup t x y true,ty,pos,aft,g⟩ fr (Sat w0 G) (.tuple #[(at1 L k).getD z,.bool (at1 L k).isSome]):=fun a w kn s=>by
 obtain ⟨e,inf,d,u1,u2,u3,u4⟩:=ht
 obtain ⟨es,clock,e1,e2,e3⟩:=s.getMapE hk
 have hr:(execOp a.eval ⟨dst,.lookup t x y true,ty,pos,aft,g⟩).run P w = .ok (.value (.tuple #[(at1 L k).getD z,.bool (at1 L k).isSome])) w:=by
  have hf:=findE hK u2 h hL h1 e2 w
  cases hq:at1 L k with
  | none=>rw [hq] at hf; simp [execOp,kn.ev hx,kn.ev hy,Instr.lookup,run_underlying u1,Go.MapKept.run_getObj_map e1,hK.ck _ _ _ h,hf,zeroValue,typeInfo,u3,u4,Result.andThen]
  | some v=>rw [hq] at hf; simp [execOp,kn.ev hx,kn.ev hy,Instr.lookup,run_underlying u1,Go.MapKept.run_getObj_map e1,hK.ck _ _ _ h,hf,Result.andThen]
 rw [hr]; exact ⟨Ext.refl w,rfl⟩
theorem Qt.lenE (i:Nat) {t kt:TypeId} {z:Value} {x:Operand} {b:Nat} {L:List (Value × Value)} (ht:mpT P t kt z) (hx:ev fr x = some (.map (some b))) (hk:G[i]? = some (mapE b L)) :
  Qt P n ⟨dst,.call { callee:=.builtin .len,args:=#[x],argTypes:=#[t] },ty,pos,aft,g⟩ fr (Sat w0 G) (.int .i64 L.length):=fun a w kn s=>by
 obtain ⟨e,inf,d,u1,u2,u3,u4⟩:=ht
 obtain ⟨es,clock,e1,e2,e3⟩:=s.getMapE hk
 have hl:es.size = L.length:=by rw [← e2]; simp
 have hr:(execOp a.eval ⟨dst,.call { callee:=.builtin .len,args:=#[x],argTypes:=#[t] },ty,pos,aft,g⟩).run P w = .ok (.value (.int .i64 L.length)) w:=by
  simp [execOp,kn.ev hx,resolve,invoke,builtin,Builtin.len_,run_underlying u1,Go.MapKept.run_getObj_map e1,Result.andThen,goInt,hl]
 rw [hr]; exact ⟨Ext.refl w,rfl⟩
theorem Sd.mapFirst (i:Nat) {t kt:TypeId} {z:Value} {K:Value→Prop} {x y u:Operand} {b:Nat} {k v:Value} (ht:mpT P t kt z) (hK:KeyT P kt K) (hx:ev fr x = some (.map (some b))) (hy:ev fr y = some k) (hu:ev fr u = some v) (hk:G[i]? = some (mapE b [])) (h:K k) :
  Sd P n ⟨none,.mapUpdate t x y u,ty,pos,aft,g⟩ fr (Sat w0 G) (fun _:Unit=>undef) (fun _=>Sat w0 (G.set i (mapE b [(k,v)]))):=fun a w kn s=>by
 obtain ⟨e,inf,d,u1,u2,u3,u4⟩:=ht
 obtain ⟨es,clock,e1,e2,e3⟩:=s.getMapE hk
 have hf:=findE hK u2 h (L:=[]) (by simp) (by simp) e2 w
 have hr:(execOp a.eval ⟨none,.mapUpdate t x y u,ty,pos,aft,g⟩).run P w = .ok .skip { w with heap:=w.heap.setIfInBounds b (.map (es.push { key:=k,val:=v,born:=clock }) (clock + 1)) }:=by
  simp [execOp,kn.ev hx,kn.ev hy,kn.ev hu,Instr.mapUpdate,run_underlying u1,Go.MapKept.run_getObj_map e1,hK.ck _ _ _ h,hf,at1,Result.andThen,Go.MapKept.run_setObj_map _ e1]
 rw [hr]
 have he:es.toList = []:=List.map_eq_nil_iff.1 e2
 exact ⟨(),rfl,s.setMapE hk (by simp [he]) (by simp [he])⟩
theorem Sd.mapDel1 (i:Nat) {t kt kt':TypeId} {z:Value} {K:Value→Prop} {x y:Operand} {b:Nat} {k:Value} {L:List (Value × Value)} (ht:mpT P t kt z) (hK:KeyT P kt K) (hx:ev fr x = some (.map (some b))) (hy:ev fr y = some k) (hk:G[i]? = some (mapE b L)) (h:K k) (hL:∀ e ∈ L,e.1 = k) (h1:L.length ≤ 1) :
  Sd P n ⟨none,.call { callee:=.builtin .delete,args:=#[x,y],argTypes:=#[t,kt'] },ty,pos,aft,g⟩ fr (Sat w0 G) (fun _:Unit=>.tuple #[]) (fun _=>Sat w0 (G.set i (mapE b []))):=fun a w kn s=>by
 obtain ⟨e,inf,d,u1,u2,u3,u4⟩:=ht
 obtain ⟨es,clock,e1,e2,e3⟩:=s.getMapE hk
 have hf:=findE hK u2 h (L:=L) (fun e he=>by rw [hL e he]; exact h) h1 e2 w
 cases L with
 | nil =>
  have hr:(execOp a.eval ⟨none,.call { callee:=.builtin .delete,args:=#[x,y],argTypes:=#[t,kt'] },ty,pos,aft,g⟩).run P w = .ok (.value (.tuple #[])) { w with heap:=w.heap.setIfInBounds b (.map es clock) }:=by
   simp [execOp,kn.ev hx,kn.ev hy,resolve,invoke,builtin,Builtin.delete_,run_underlying u1,Go.MapKept.run_getObj_map e1,hK.ck _ _ _ h,hf,at1,Result.andThen,Go.MapKept.run_setObj_map _ e1]
  rw [hr]
  exact ⟨(),rfl,s.setMapE hk e2 e3⟩
 | cons p L =>
  have hL':L = []:=by cases L with | nil=>rfl | cons q L=>simp at h1
  subst hL'
  have hp:p.1 = k:=hL p (by simp)
  have hq:at1 [p] k = some p.2:=by cases p; simp only at hp; subst hp; simp [at1]
  rw [hq] at hf
  have hr:(execOp a.eval ⟨none,.call { callee:=.builtin .delete,args:=#[x,y],argTypes:=#[t,kt'] },ty,pos,aft,g⟩).run P w = .ok (.value (.tuple #[])) { w with heap:=w.heap.setIfInBounds b (.map (es.eraseIdxIfInBounds 0) clock) }:=by
   simp [execOp,kn.ev hx,kn.ev hy,resolve,invoke,builtin,Builtin.delete_,run_underlying u1,Go.MapKept.run_getObj_map e1,hK.ck _ _ _ h,hf,Result.andThen,Go.MapKept.run_setObj_map _ e1]
  rw [hr]
  have hl:=congrArg List.length e2
  simp only [List.length_map,Array.length_toList,List.length_cons,List.length_nil] at hl
  have hz:es.eraseIdxIfInBounds 0 = #[]:=by
   apply Array.eq_empty_of_size_eq_zero
   simp [Array.eraseIdxIfInBounds,hl]
  exact ⟨(),rfl,s.setMapE hk (by rw [hz]; rfl) (by rw [hz]; simp)⟩
def mpTz (P:Program) (t:TypeId):Option (TypeId × Value):=match P.underlying t with
  | some (.map k e)=>if (P.underlying k).isSome then (P.info? e).bind fun i=>i.zero.map fun z=>(k,z) else none
  | _=>none
theorem mpT_of {t kt:TypeId} {z:Value} (h:mpTz P t = some (kt,z)):mpT P t kt z:=by
 unfold mpTz at h
 split at h
 ·rename_i k e hu
  split at h
  ·rename_i hk
   obtain ⟨i,hi,h⟩:=Option.bind_eq_some_iff.1 h
   obtain ⟨z',hz,h⟩:=Option.map_eq_some_iff.1 h
   cases h
   obtain ⟨d,hd⟩:=Option.isSome_iff_exists.1 hk
   exact ⟨e,i,d,hu,hd,hi,hz⟩
  ·cases h
 ·cases h
section
variable (i:Nat) {t kt:TypeId} {z:Value} {K:Value→Prop} {x y:Operand} {b:Nat} {k v:Value}
theorem Qt.nilE (ht:mpT P t kt z) (hK:KeyT P kt K) (hx:ev fr x = some (.map (some b))) (hy:ev fr y = some k) (hk:G[i]? = some (mapE b [])) (h:K k):Qt P n ⟨dst,.lookup t x y false,ty,pos,aft,g⟩ fr (Sat w0 G) z :=
 Qt.lookupE i ht hK hx hy hk h (by simp) (by simp)
theorem Qt.nilE2 (ht:mpT P t kt z) (hK:KeyT P kt K) (hx:ev fr x = some (.map (some b))) (hy:ev fr y = some k) (hk:G[i]? = some (mapE b [])) (h:K k):Qt P n ⟨dst,.lookup t x y true,ty,pos,aft,g⟩ fr (Sat w0 G) (.tuple #[z,.bool false]) :=
 Qt.lookupE2 i ht hK hx hy hk h (by simp) (by simp)
theorem Qt.oneE (ht:mpT P t kt z) (hK:KeyT P kt K) (hx:ev fr x = some (.map (some b))) (hy:ev fr y = some k) (hk:G[i]? = some (mapE b [(k,v)])) (h:K k):Qt P n ⟨dst,.lookup t x y false,ty,pos,aft,g⟩ fr (Sat w0 G) v:=by
 have:=Qt.lookupE (dst:=dst) (ty:=ty) (pos:=pos) (aft:=aft) (g:=g) (n:=n) (w0:=w0) i ht hK hx hy hk h (by simpa using h) (by simp)
 simpa [at1] using this
theorem Qt.oneE2 (ht:mpT P t kt z) (hK:KeyT P kt K) (hx:ev fr x = some (.map (some b))) (hy:ev fr y = some k) (hk:G[i]? = some (mapE b [(k,v)])) (h:K k):Qt P n ⟨dst,.lookup t x y true,ty,pos,aft,g⟩ fr (Sat w0 G) (.tuple #[v,.bool true]):=by
 have:=Qt.lookupE2 (dst:=dst) (ty:=ty) (pos:=pos) (aft:=aft) (g:=g) (n:=n) (w0:=w0) i ht hK hx hy hk h (by simpa using h) (by simp)
 simpa [at1] using this
theorem Sd.delE (ht:mpT P t kt z) (hK:KeyT P kt K) {kt':TypeId} (hx:ev fr x = some (.map (some b))) (hy:ev fr y = some k) (hk:G[i]? = some (mapE b [(k,v)])) (h:K k) :
  Sd P n ⟨none,.call { callee:=.builtin .delete,args:=#[x,y],argTypes:=#[t,kt'] },ty,pos,aft,g⟩ fr (Sat w0 G) (fun _:Unit=>.tuple #[]) (fun _=>Sat w0 (G.set i (mapE b []))) :=
 Sd.mapDel1 i ht hK hx hy hk h (by simp) (by simp)
end
theorem Cont.retC1 {fn:Func} {R:Ending→World→Prop} {t ty b:Nat} {e:TypeId} {v:Value} (k:Nat) (hr:fn.results = #[.cell t ty]) (ht:tySz P ty = some (1,false)) (hv:look fr t = some (.pointer (some ⟨b,0,none⟩)))
  (hk:G[k]? = some (blk b [v] e)) (h:∀ w,Sat w0 G w→R (.returned v) w):Cont n (bodyPost P fn R .ret) fr (Sat w0 G):=fun a w kn s=>by
 have hld:=run_loadVar1 (P:=P) (w:=w) (a:=⟨b,0,none⟩) (v:=v) ht (by
  have:=(s.getBlk hk).1
  simp [World.cell?,this])
 have hp:=kn.getD hv
 refine bodyPost_ret (v:=v) ?_ kn.defers (h w s)
 have hp':a.tmps[t]?.getD undef = .pointer (some ⟨b,0,none⟩):=by simpa [Array.getD_eq_getD_getElem?] using hp
 simp [results,hr,hp',asAddr,hld]
def EsOk (L:List (Value × Value)) (q:Array MapEntry × Nat):Prop:=q.1.toList.map (fun e=>(e.key,e.val)) = L∧∀ e ∈ q.1.toList,e.born < q.2
def mapX (b:Nat) (es:Array MapEntry) (clock:Nat):Ch:=fun h=>h b = some (.map es clock)
def iterX (r b since:Nat) (seen:Array Nat) (c0:Nat):Ch:=fun h=>h r = some (.mapIter (some b) since seen c0)
theorem mapE_ex (b:Nat) (L:List (Value × Value)):mapE b L = exch fun q:{q:Array MapEntry × Nat // EsOk L q}=>mapX b q.1.1 q.1.2:=by
 funext h
 refine propext ⟨fun ⟨es,clock,h1,h2,h3⟩=>⟨⟨(es,clock),h2,h3⟩,h1⟩,fun ⟨q,h1⟩=>⟨q.1.1,q.1.2,h1,q.2.1,q.2.2⟩⟩
theorem Sat.openE {w:World} {b:Nat} {L:List (Value × Value)} (i:Nat) (hk:G[i]? = some (mapE b L)) (s:Sat w0 G w):∃ q:{q:Array MapEntry × Nat // EsOk L q},Sat w0 (G.set i (mapX b q.1.1 q.1.2)) w:=s.exAt i (by rw [hk,mapE_ex])
theorem Sat.shutE {w:World} {b:Nat} {L:List (Value × Value)} (i:Nat) (q:{q:Array MapEntry × Nat // EsOk L q}) (hk:G[i]? = some (mapX b q.1.1 q.1.2)) (s:Sat w0 G w):Sat w0 (G.set i (mapE b L)) w :=
 s.weaken i hk _ fun p hp=>⟨q.1.1,q.1.2,hp,q.2.1,q.2.2⟩
theorem EsOk.none {q:Array MapEntry × Nat} (h:EsOk [] q):q.1 = #[]:=by
 have:=List.map_eq_nil_iff.1 h.1
 exact Array.toList_eq_nil_iff.1 this
theorem EsOk.one {k v:Value} {q:Array MapEntry × Nat} (h:EsOk [(k,v)] q):∃ e,q.1 = #[e]∧e.key = k∧e.val = v∧e.born < q.2:=by
 obtain ⟨h1,h2⟩:=h
 cases hq:q.1.toList with
 | nil=>rw [hq] at h1; cases h1
 | cons e r =>
  rw [hq] at h1 h2
  simp only [List.map_cons,List.cons.injEq,Prod.mk.injEq,List.map_eq_nil_iff] at h1
  obtain ⟨⟨h3,h4⟩,rfl⟩:=h1
  exact ⟨e,Array.toList_inj.1 hq,h3,h4,h2 e (by simp)⟩
theorem Sd.rangeX (i:Nat) {t kt:TypeId} {z:Value} {x:Operand} {b clock:Nat} {es:Array MapEntry} (ht:mpT P t kt z) (hx:ev fr x = some (.map (some b))) (hk:G[i]? = some (mapX b es clock)) :
  Sd P n ⟨dst,.range t x,ty,pos,aft,g⟩ fr (Sat w0 G) (fun r:Nat=>.pointer (some ⟨r,0,none⟩)) (fun r=>Sat w0 (G ++ [iterX r b clock #[] clock])):=fun a w kn s=>by
 obtain ⟨e,inf,d,u1,u2,u3,u4⟩:=ht
 obtain ⟨p,hp,hl,_⟩:=s.get i hk
 have hb:w.heap[b]? = some (.map es clock):=hl _ _ hp
 have hr:(execOp a.eval ⟨dst,.range t x,ty,pos,aft,g⟩).run P w = .ok (.value (.pointer (some ⟨w.heap.size,0,none⟩))) (w.alloc (.mapIter (some b) clock #[] clock)):=by
  simp [execOp,kn.ev hx,Instr.range,run_underlying u1,Go.MapKept.run_getObj_map hb,Result.andThen]
 rw [hr]
 refine ⟨w.heap.size,rfl,s.new (Ext.alloc w _) _ (fun c=>if c = w.heap.size then some (.mapIter (some b) clock #[] clock) else none) (by show (if w.heap.size = w.heap.size then _ else _) = _; simp) (fun c o hc=>?_) (fun c o hc=>?_)⟩
 ·dsimp only at hc
  split at hc
  ·rename_i hb'; subst hb'; cases hc
   exact (heap_alloc w _).1
  ·cases hc
 ·split at hc
  ·omega
  ·cases hc
theorem Qt.nextEnd (i j:Nat) {x:Operand} {b r since clock c0:Nat} {es:Array MapEntry} {seen:Array Nat} (hx:ev fr x = some (.pointer (some ⟨r,0,none⟩))) (hk:G[i]? = some (mapX b es clock)) (hj:G[j]? = some (iterX r b since seen c0))
  (ho:∀ e ∈ es.toList,e.born < since) (hs:since ≤ c0) (hn:∀ e ∈ es.toList,seen.contains e.born = true) :
  Qt P n ⟨dst,.next x false,ty,pos,aft,g⟩ fr (Sat w0 G) (.tuple #[.bool false]):=fun a w kn s=>by
 obtain ⟨p,hp,hl,_⟩:=s.get i hk
 obtain ⟨p2,hp2,hl2,_⟩:=s.get j hj
 have hb:w.heap[b]? = some (.map es clock):=hl _ _ hp
 have hi:w.heap[r]? = some (.mapIter (some b) since seen c0):=hl2 _ _ hp2
 have hz:(Go.leftOf es seen).size = 0:=by
  unfold Go.leftOf
  rw [Array.size_eq_zero_iff,Array.filter_eq_empty_iff]
  intro e he
  have:=hn e (by simpa using he)
  simpa using this
 rcases Go.run_next_at (P:=P) w ty r b since c0 seen es clock hi hb ho hs with ⟨_,h⟩ | ⟨e,he,_⟩
 ·have hr:(execOp a.eval ⟨dst,.next x false,ty,pos,aft,g⟩).run P w = .ok (.value (.tuple #[.bool false])) w:=by
   simp [execOp,kn.ev hx,h,Result.andThen]
  rw [hr]; exact ⟨Ext.refl w,rfl⟩
 ·rw [Array.size_eq_zero_iff.1 hz] at he; simp at he
theorem Sd.nextOne (i j:Nat) {x:Operand} {b r since clock c0:Nat} {e:MapEntry} (hx:ev fr x = some (.pointer (some ⟨r,0,none⟩))) (hk:G[i]? = some (mapX b #[e] clock)) (hj:G[j]? = some (iterX r b since #[] c0)) (ho:e.born < since) (hs:since ≤ c0) :
  Sd P n ⟨dst,.next x false,ty,pos,aft,g⟩ fr (Sat w0 G) (fun _:Unit=>.tuple #[.bool true,e.key,e.val]) (fun _=>Sat w0 (G.set j (iterX r b since #[e.born] clock))):=fun a w kn s=>by
 obtain ⟨p,hp,hl,_⟩:=s.get i hk
 obtain ⟨p2,hp2,hl2,_⟩:=s.get j hj
 have hb:w.heap[b]? = some (.map #[e] clock):=hl _ _ hp
 have hi:w.heap[r]? = some (.mapIter (some b) since #[] c0):=hl2 _ _ hp2
 rcases Go.run_next_at (P:=P) w ty r b since c0 #[] #[e] clock hi hb (by simpa using ho) hs with ⟨h,_⟩ | ⟨e',he,w1,hw,h⟩
 ·simp [Go.leftOf] at h
 ·have he':e' = e:=by simpa [Go.leftOf] using he
  subst he'
  have hr:(execOp a.eval ⟨dst,.next x false,ty,pos,aft,g⟩).run P w = .ok (.value (.tuple #[.bool true,e'.key,e'.val])) (ChangeMaps.setBlock w1 r (.mapIter (some b) since #[e'.born] clock)):=by
   simp [execOp,kn.ev hx,h,Result.andThen]
  rw [hr]
  have s1:Sat w0 G w1:=by rcases hw with rfl | rfl; exact s; exact s.drewS
  refine ⟨(),rfl,s1.turn j hj _ rfl rfl rfl (by simp [ChangeMaps.setBlock]) fun q hq hql hqb=>?_⟩
  have hbw:=hql _ _ hq
  obtain ⟨g1,g2⟩:=heap_set (o':=.mapIter (some b) since #[e'.born] clock) (show w1.heap[r]? = some _ from hbw)
  refine ⟨fun c hc hn=>g2 c (fun e0=>by rw [e0,hq] at hn; cases hn),fun c=>if c = r then some (.mapIter (some b) since #[e'.born] clock) else none,by show (if r = r then _ else _) = _; simp,fun c o hc=>?_⟩
  dsimp only at hc
  split at hc
  ·rename_i hcb; subst hcb; cases hc
   exact ⟨.inl (by rw [hq]; simp),g1⟩
  ·cases hc
theorem Qt.entryX (i j:Nat) {x:Operand} {b r since clock:Nat} {e:MapEntry} (hx:ev fr x = some (.pointer (some ⟨r,0,none⟩))) (hk:G[i]? = some (mapX b #[e] clock)) (hj:G[j]? = some (iterX r b since #[e.born] clock)) :
  Qt P n ⟨dst,.entry x,ty,pos,aft,g⟩ fr (Sat w0 G) (.tuple #[e.key,e.val]):=fun a w kn s=>by
 obtain ⟨p,hp,hl,_⟩:=s.get i hk
 obtain ⟨p2,hp2,hl2,_⟩:=s.get j hj
 have hb:w.heap[b]? = some (.map #[e] clock):=hl _ _ hp
 have hi:w.heap[r]? = some (.mapIter (some b) since #[e.born] clock):=hl2 _ _ hp2
 have hr:(execOp a.eval ⟨dst,.entry x,ty,pos,aft,g⟩).run P w = .ok (.value (.tuple #[e.key,e.val])) w:=by
  have hq:=Go.run_entry_at (P:=P) w r b since #[] #[e] clock e hi hb (by simp) (by simp)
  simp [execOp,kn.ev hx,hq,Result.andThen]
 rw [hr]; exact ⟨Ext.refl w,rfl⟩
theorem Qt.oneX (i:Nat) {t kt:TypeId} {z:Value} {K:Value→Prop} {x y:Operand} {b ck:Nat} {es:Array MapEntry} {k v:Value} (hq:EsOk [(k,v)] (es,ck)) (ht:mpT P t kt z) (hK:KeyT P kt K) (hx:ev fr x = some (.map (some b))) (hy:ev fr y = some k) (hk:G[i]? = some (mapX b es ck)) (h:K k) :
  Qt P n ⟨dst,.lookup t x y false,ty,pos,aft,g⟩ fr (Sat w0 G) v:=fun a w kn s=>by
 have hli:i < G.length:=(List.getElem?_eq_some_iff.1 hk).1
 exact Qt.oneE (G:=G.set i (mapE b [(k,v)])) i ht hK hx hy (by rw [List.getElem?_set_self hli]) h a w kn (s.shutE i ⟨(es,ck),hq⟩ hk)
theorem T.loop2 {γ:Type} {c:Code} {Q:Po} (U:Fr) (SS1:γ→As) (hU:Sub fr U) (one:∀ K:Act→World→Prop,(∀ fr' S' q,Sub fr' U→(∀ w,S' w→SS1 q w)→Cont n K fr' S')→T P n c U S (Exit.then K Q))
  (two:∀ q,∀ K:Act→World→Prop,T P n c U (SS1 q) (Exit.then K Q)):T P n (.loop c) fr S Q:=by
 refine T.loop (σ:=Option γ) (fun _=>U) (fun x=>match x with | none=>S | some q=>SS1 q) (fun _=>True) (fun x=>match x with | none=>1 | some _=>0) none trivial hU (fun _ s=>s) ?_
 rintro (_ | q) _ K hL
 ·exact one K fun fr' S' q h1 h2=>hL fr' S' (some q) trivial (Nat.lt_succ_self 0) h1 h2
 ·exact two q K
end
end Go.Vg
