/-
  Walks of moves.
-/
import Derived.Test.YtmngdgclldkcfaaGreatRows
import Derived.Test.YtmngdgclldkcfaaGreatJ6
import Derived.Test.YtmngdgclldkcfaaGreatJ7
import Derived.Test.YtmngdgclldkcfaaGreatJ24
import Derived.Test.YtmngdgclldkcfaaGreatYQ
set_option linter.unusedVariables false
set_option linter.unusedSimpArgs false
set_option maxRecDepth 20000
set_option maxHeartbeats 4000000
namespace Go.Proofs.YtmngdgclldkcfaaGreat
open Go.Vg
open Enc (R)
theorem ent137:Ent Tryz.prog 137:=en Tryz.func137
theorem ent138:Ent Tryz.prog 138:=en Tryz.func138
theorem ent207:Ent Tryz.prog 207:=en Tryz.func207
theorem ent209:Ent Tryz.prog 209:=en Tryz.func209
theorem ent211:Ent Tryz.prog 211:=en Tryz.func211
theorem ent212:Ent Tryz.prog 212:=en Tryz.func212
theorem ent213:Ent Tryz.prog 213:=en Tryz.func213
theorem ent214:Ent Tryz.prog 214:=en Tryz.func214
theorem ent215:Ent Tryz.prog 215:=en Tryz.func215
theorem ent270:Ent Tryz.prog 270:=en Tryz.func270
instance fd185_0:FdC Tryz.prog 185 0 0:={}
instance fd185_1:FdC Tryz.prog 185 1 1:={}
instance fd73_1:FdC Tryz.prog 73 1 1:={}
theorem fld73_1:fldTy Tryz.prog 73 1 = some (2,1):=by kernel_rfl
theorem meth100Net (v:Value) (w:World) (args:Array Value):(callMethod (.iface 100 v) "Net" args).run Tryz.prog w = .ok (.enter 40 (#[v] ++ args)) w:=by kernel_rfl
theorem meth100Ways (v:Value) (w:World) (args:Array Value):(callMethod (.iface 100 v) "Ways" args).run Tryz.prog w = .ok (.enter 354 (#[v] ++ args)) w:=by kernel_rfl
instance ty183:TyC Tryz.prog 183 (1,false):={}
theorem mover_try_walk {w0:World} {F:Ch} (g0:Nat) (gf:Nat) (a0_m:Mvr) (a1_u:Unt) (a2_v:Vec) {r:Int × Mvr} (H:mover_try a0_m a1_u a2_v = some r) (w:World) (s:Sat w0 [Mvr_ch g0 gf a0_m,F] w):Calls Tryz.prog 209 #[.pointer (some ⟨g0,0,none⟩),.agg #[.int .i64 a1_u.id,.int .i64 a1_u.owner,.int .i64 a1_u.kind,.int .i64 a1_u.pos.x,.int .i64 a1_u.pos.y,.int .i64 a1_u.goal,.int .i64 a1_u.next,.int .i64 a1_u.stuck,.int .i64 a1_u.inn,.int .i64 a1_u.state],.agg #[.int .i64 a2_v.x,.int .i64 a2_v.y]] w fun e w'=>e = .returned (.int .i64 r.1)∧Sat w0 [Mvr_ch g0 gf r.2,F] w':=by
 unfold mover_try at H
 refine te Tryz.func209 s ?_
 refine T.seq fun _ k1=>T.region (RS.solid (Sd.box (cs:=[_,_,_,_,_,_,_,_,_,_]) rfl rfl) rfl rfl fun b1=>RS.solid (Sd.box (cs:=[_,_]) rfl rfl) rfl rfl fun b2=>rA rfl (RS.nil (k1 _ _ (kq [0,4,5] ?_))))
 refine T.seq fun _ k2=>T.region (rq (Qt.ldBA (us:=[_,_]) 3 ty33.h rfl rfl rfl rfl) ?_)
 obtain ⟨x3,hx3,H⟩:=bindE H
 refine rq (Qt.call (vs:=[_]) ent267 rfl fun w s=>vec_Norm_walk a2_v w  hx3) (RS.solid (Sd.stB (cs':=[_,_]) 3 ty33.h rfl rfl rfl rfl rfl rfl rfl rfl) rfl rfl fun _=>RS.nil (k2 _ _ ?_))
 refine T.seq fun _ k3=>au 2 ?_
 refine T.joinE (σ:=Unit) (γ:=Unit) H Ex.go [] trivial (fun _ _=>[]) (fun _ _=>Sat w0 [Mvr_ch g0 gf a0_m,F,blk b1 [.int .i64 a1_u.id,.int .i64 a1_u.owner,.int .i64 a1_u.kind,.int .i64 a1_u.pos.x,.int .i64 a1_u.pos.y,.int .i64 a1_u.goal,.int .i64 a1_u.next,.int .i64 a1_u.stuck,.int .i64 a1_u.inn,.int .i64 a1_u.state] 54,blk b2 [.int .i64 x3.x,.int .i64 x3.y] 33]) ?_ ?_
 ·rintro ⟨⟩ ⟨⟩ H
  try dsimp only [Ex.then] at H
  refine Cont.kq [] ?_
  refine id (k3 _ _ ?_)
  refine T.seq fun _ k5=>?_
  exact nomatch H
 intro z4 hz4 HX4 hJ4
 refine T.block ?_
 refine T.loopA (γ:=Unit) hz4 [(0,_),(4,_),(5,_)] (fun v5 _=>[(12,.int .i64 v5)]) (fun v5 _=>Sat w0 [Mvr_ch g0 gf a0_m,F,blk b1 [.int .i64 a1_u.id,.int .i64 a1_u.owner,.int .i64 a1_u.kind,.int .i64 a1_u.pos.x,.int .i64 a1_u.pos.y,.int .i64 a1_u.goal,.int .i64 a1_u.next,.int .i64 a1_u.stuck,.int .i64 a1_u.inn,.int .i64 a1_u.state] 54,blk b2 [.int .i64 x3.x,.int .i64 x3.y] 33]) () sb sb (fun w s=>s) ?_
 rintro v5 ⟨⟩ y6 H hd4 KL4 hL4
 try dsimp only [Ex.then] at H
 refine kq [12,0,4,5] ?_
 refine au 2 ?_
 refine T.seq fun _ k7=>?_
 refine T.cP H rfl (fun hc7 H=>?_) (fun hc7 H=>?_)
 ·refine T.skip (k7 _ _ ?_)
  refine T.seq fun _ k8=>T.block (au 3 ?_)
  refine T.seq fun _ k10=>dr mixed [0,1,0,0,0,0,1,0,0,0,0,3,4] ?_
  refine au 3 ?_
  obtain ⟨g8,H⟩:=gdE H
  refine dp rfl (Pu.shlV rfl rfl g8) ?_
  obtain ⟨g9,H⟩:=gdE H
  refine dp rfl (Pu.quoT rfl rfl g9) (au 3 ?_)
  obtain ⟨g10,H⟩:=gdE H
  refine dp rfl (Pu.shlV rfl rfl g10) ?_
  obtain ⟨g11,H⟩:=gdE H
  refine dp rfl (Pu.quoT rfl rfl g11) (dp rfl (Pu.build (cells:=[_,_]) st33 rfl rfl) (RD.solid rfl (.inl rfl) rfl rfl (Sd.alloc zr33 rfl) (fun _=>ClE.sat _ _) (fun _ _ _=>trivial) (fun _ _ _ s=>s.drop1) fun b12=>?_))
  refine RD.solid rfl (.inr rfl) rfl rfl (Sd.stB (cs':=[_,_]) 4 ty33.h rfl rfl rfl rfl rfl rfl rfl rfl) (fun _=>ClE.sat _ _) (fun _ _ _=>trivial) (fun h=>nomatch h) fun _=>?_
  refine RD.nil (k10 _ _ (kq [0,4,5,7,8,12] ?_))
  refine T.seq fun _ k11=>T.seq fun _ k12=>T.region (rq (Qt.ldBA (us:=[_,_]) 4 ty33.h rfl rfl rfl rfl) (rp (Pu.build (cells:=[_,_]) st33 rfl rfl) (rp (Pu.eqSt eqt33 rfl rfl rfl (eq_Vec (⟨(Int.tdiv x3.x ((1:Int) * 2 ^ v5.toNat)),(Int.tdiv x3.y ((1:Int) * 2 ^ v5.toNat))⟩:Vec) (⟨0,0⟩:Vec))) (RS.nil (k12 _ _ ?_)))))
  refine T.cP H rfl (fun hc13 H=>?_) (fun hc13 H=>?_)
  ·refine kq [] ?_
   refine au 2 ?_
   obtain rfl:=hd4 _ H
   have H:=HX4
   obtain rfl:=sj H
   refine T.rt (Cont.ret1 rfl rfl fun w' s=>?_)
   exact ⟨rfl,s.pc [0,1]⟩
  refine T.skip (k11 _ _ (kq [0,4,5,7,8,12] ?_))
  refine T.seq fun _ k14=>T.region (au 3 ?_)
  obtain ⟨x14,hx14,H⟩:=bindE H
  refine rq (Qt.call (vs:=[_,_]) ent207 rfl fun w s=>vec_Add_walk a1_u.pos (⟨(Int.tdiv x3.x ((1:Int) * 2 ^ v5.toNat)),(Int.tdiv x3.y ((1:Int) * 2 ^ v5.toNat))⟩:Vec) w  hx14) (RS.solid (Sd.alloc zr33 rfl) rfl rfl fun b15=>RS.solid (Sd.stB (cs':=[_,_]) 5 ty33.h rfl rfl rfl rfl rfl rfl rfl rfl) rfl rfl fun _=>RS.nil (k14 _ _ (kq [0,4,5,7,9,12] ?_)))
  refine T.seq fun _ k15=>?_
  refine T.ex (fun w s=>Mvr_open 0 rfl s) ?_
  rintro gs16
  refine nz ?_
  refine dr mixed [0,0,0,1,0,1,0,1,1,4] ?_
  refine au 9 ?_
  obtain ⟨x17,hx17,H⟩:=bindE H
  refine RD.solid rfl (.inr rfl) rfl rfl (Sd.callF0 6 ent72 rfl rfl (fun w s=>army_Place_walk gs16 a0_m.s a1_u.id a1_u.kind x14  hx17 w s)) (fun _=>ClE.sat _ _) (fun _ _ _=>trivial) (fun h=>nomatch h) fun _=>?_
  refine RD.nil (k15 _ _ ?_)
  refine T.cB H rfl (fun hc18 H=>?_) (fun hc18 H=>?_)
  ·refine kq [0,4,7,9] ?_
   refine T.seq fun _ k16=>nz ?_
   refine T.region (au 3 ?_)
   refine RS.nil (k16 _ _ (kq [0,4,7] ?_))
   refine T.seq fun _ k17=>nz ?_
   refine dr mixed [0,0,0,1,1,4] ?_
   refine au 5 ?_
   obtain ⟨x19,hx19,H⟩:=bindE H
   refine RD.solid rfl (.inr rfl) rfl rfl (Sd.callF0 6 ent189 rfl rfl (fun w s=>army_Put_walk gs16 x17.2 (⟨a1_u.id,a1_u.owner,a1_u.kind,x14,a1_u.goal,a1_u.next,a1_u.stuck,a1_u.inn,a1_u.state⟩:Unt)  hx19 w s)) (fun _=>ClE.sat _ _) (fun _ _ _=>trivial) (fun h=>nomatch h) fun _=>?_
   refine RD.nil (k17 _ _ (kq [7] ?_))
   refine au 3 ?_
   refine T.wk (fun w s=>(Sat.sP [1,2,3,4,5] [0,6,7] s (Mvr_shut (x:=(⟨x19,a0_m.f⟩:Mvr)) gs16))) ?_
   obtain rfl:=hd4 _ H
   have H:=HX4
   obtain rfl:=sj H
   refine T.rt (Cont.ret1 rfl rfl fun w' s=>?_)
   exact ⟨rfl,s.pc [0,1]⟩
  refine T.skip (k8 _ _ (kq [0,4,5,12] ?_))
  exact nomatch H
 refine T.xt ?_
 obtain rfl:=hd4 _ H
 refine id (hJ4 _ _ () () HX4 trivial trivial (fun w s=>s))
theorem mover_idle_walk {w0:World} {F:Ch} (g0:Nat) (gf:Nat) (a0_m:Mvr) (a1_u:Unt) {r:Mvr} (H:mover_idle a0_m a1_u = some r) (w:World) (s:Sat w0 [Mvr_ch g0 gf a0_m,F] w):Calls Tryz.prog 137 #[.pointer (some ⟨g0,0,none⟩),.agg #[.int .i64 a1_u.id,.int .i64 a1_u.owner,.int .i64 a1_u.kind,.int .i64 a1_u.pos.x,.int .i64 a1_u.pos.y,.int .i64 a1_u.goal,.int .i64 a1_u.next,.int .i64 a1_u.stuck,.int .i64 a1_u.inn,.int .i64 a1_u.state]] w fun e w'=>e = .returned (.tuple #[])∧Sat w0 [Mvr_ch g0 gf r,F] w':=by
 unfold mover_idle at H
 refine te Tryz.func137 s ?_
 refine T.seq fun _ k1=>T.region (RS.solid (Sd.box (cs:=[_,_,_,_,_,_,_,_,_,_]) rfl rfl) rfl rfl fun b1=>RS.nil (k1 _ _ ?_))
 refine T.seq fun _ k2=>T.region (au 2 ?_)
 obtain ⟨x2,hx2,H⟩:=bindE H
 refine rq (Qt.call (vs:=[_]) ent118 rfl fun w s=>kind_What_walk a1_u.kind w  hx2) (RS.solid (Sd.alloc zr73 rfl) rfl rfl fun b3=>RS.solid (Sd.stB (cs':=[_,_,_,_,_]) 3 ty73.h rfl rfl rfl rfl rfl rfl rfl rfl) rfl rfl fun _=>RS.nil (k2 _ _ (kq [0,3,4] ?_)))
 refine T.seq fun _ k3=>T.region (RS.solid (Sd.alloc zr33 rfl) rfl rfl fun b4=>RS.nil (k3 _ _ ?_))
 refine T.seq fun _ k4=>T.seq fun _ k5=>?_
 refine T.ex (fun w s=>Mvr_open 0 rfl s) ?_
 rintro gs5
 refine nz ?_
 refine T.drawn (fun _=>True) [(0,.pu),(1,.pu),(2,.pu),(3,.rd),(4,.pu),(5,.rd),(6,.pu),(7,.rd),(8,.pu),(11,.pu),(9,.so),(10,.pu)] mixed (ClE.sat _ _) (by kernel_rfl) ?_
 refine au 8 ?_
 obtain ⟨g6,H⟩:=gdE H
 refine dp rfl (Pu.addS rfl rfl g6) (dp rfl (Pu.move rfl) ?_)
 obtain ⟨x7,hx7,H⟩:=bindE H
 refine RD.solid rfl (.inl rfl) rfl rfl (Sd.callF 5 ent121 rfl rfl (fun w s=>army_Near_walk gs5 a0_m.s a1_u.pos (x2.radius + 16384)  hx7 w s)) (fun _=>ClE.sat _ _) (fun _ _ _=>trivial) (fun _ _ _ s=>s.pc [0,1,2,3,4,5,6]) fun q8=>?_
 refine dp rfl (Pu.lenSl sl50.h rfl) (RD.nil (k5 _ _ (kq [0,3,4,5,20,21,22] ?_)))
 refine T.wk (fun w s=>(Sat.sP [1,2,3,4,7] [0,5,6] s (Mvr_shut (x:=a0_m) gs5))) ?_
 refine T.joinE (σ:=Unit) (γ:=Unit) H (fun s=>s) [(0,_),(3,_),(4,_),(5,_)] sb (fun _ _=>[]) (fun _ _=>Sat w0 [Mvr_ch g0 gf a0_m,F,blk b1 [.int .i64 a1_u.id,.int .i64 a1_u.owner,.int .i64 a1_u.kind,.int .i64 a1_u.pos.x,.int .i64 a1_u.pos.y,.int .i64 a1_u.goal,.int .i64 a1_u.next,.int .i64 a1_u.stuck,.int .i64 a1_u.inn,.int .i64 a1_u.state] 54,blk b3 [.int .i64 x2.radius,.int .i64 x2.speed,.int .i64 x2.cls,.int .i64 x2.size,.int .i64 x2.room] 73,blk b4 [.int .i64 0,.int .i64 0] 33,row nilH 54 (rowV q8 x7.length) x7]) ?_ ?_
 ·rintro ⟨⟩ ⟨⟩ H
  try dsimp only [Ex.then] at H
  refine Cont.kq [0,3,4,5] ?_
  refine id (k4 _ _ ?_)
  refine nz ?_
  refine drS mixed [1,2,3,4,5] [0,1,2,0,2,0,1,4] ?_
  refine au 5 ?_
  obtain ⟨g10,H⟩:=gdE H
  refine RD.p (fun w s=>s.pc [1,2,3,4,5]) rfl (Pu.quoT rfl rfl g10) rfl rfl ?_
  obtain ⟨x11,hx11,H⟩:=bindE H
  refine RD.q (fun w s=>s.pc [1,2,3,4,5]) rfl (Qt.call (vs:=[_,_]) ent210 rfl fun w s=>vec_Clamp_walk (⟨0,0⟩:Vec) (Int.tdiv x2.speed 4) w  hx11) rfl rfl ?_
  obtain ⟨x12,hx12,H⟩:=bindE H
  refine RD.solid rfl (.inr rfl) rfl rfl (Sd.callF0 0 ent209 rfl rfl (fun w s=>mover_try_walk g0 gf a0_m a1_u x11  hx12 w s)) (fun _=>ClE.sat _ _) (fun _ w s=>s.pc [1,2,3,4,5]) (fun h=>nomatch h) fun _=>?_
  obtain rfl:=sj H
  refine RD.nil ?_
  repeat with_reducible refine Cont.inB ?_
  refine Cont.end0 rfl fun w' s=>?_
  exact ⟨rfl,s.pc [0,1]⟩
 intro z9 hz9 HX9 hJ9
 refine T.block ?_
 refine T.loopA (γ:=Unit) hz9 [(0,_),(3,_),(4,_),(5,_),(20,_),(21,_)] (fun v13 _=>[(22,.int .i64 v13)]) (fun v13 _=>Sat w0 [Mvr_ch g0 gf a0_m,F,blk b1 [.int .i64 a1_u.id,.int .i64 a1_u.owner,.int .i64 a1_u.kind,.int .i64 a1_u.pos.x,.int .i64 a1_u.pos.y,.int .i64 a1_u.goal,.int .i64 a1_u.next,.int .i64 a1_u.stuck,.int .i64 a1_u.inn,.int .i64 a1_u.state] 54,blk b3 [.int .i64 x2.radius,.int .i64 x2.speed,.int .i64 x2.cls,.int .i64 x2.size,.int .i64 x2.room] 73,blk b4 [.int .i64 0,.int .i64 0] 33,row nilH 54 (rowV q8 x7.length) x7]) () sb sb (fun w s=>s) ?_
 rintro v13 ⟨⟩ y14 H hd9 KL9 hL9
 try dsimp only [Ex.then] at H
 refine kq [22,0,3,4,5,20,21] ?_
 refine au 2 ?_
 refine T.seq fun _ k7=>?_
 refine T.cP H rfl (fun hc15 H=>?_) (fun hc15 H=>?_)
 ·refine T.skip (k7 _ _ ?_)
  refine T.seq fun _ k8=>T.block (T.seq fun _ k9=>T.region ?_)
  obtain ⟨g16,H⟩:=gdE H
  refine RS.know (p:=∃ g cap,q8 = (some g,cap)) (fun w s=>(s.row_some (k:=5) rfl (pos_of g16))) ?_
  rintro ⟨gg17,cc18,rfl⟩
  refine rp (Pu.indexSl sl50.h rfl rfl g16) (rq (Qt.ldW (α:=Unt) (cs:=[_,_,_,_,_,_,_,_,_,_]) (Rd.ofRowN 5 rfl) ty54.h rfl rfl g16 rfl (by rintro _ _ rfl; rfl)) (RS.solid (Sd.alloc zr54 rfl) rfl rfl fun b19=>RS.solid (Sd.stB (cs':=[_,_,_,_,_,_,_,_,_,_]) 6 ty54.h rfl rfl rfl rfl rfl rfl rfl rfl) rfl rfl fun _=>RS.nil (k9 _ _ (kq [0,3,4,5,7,20,21,22] ?_))))
  refine au 6 ?_
  refine T.cP H rfl (fun _ H=>nomatch H) (fun hc20 H=>?_)
  refine T.skip (k8 _ _ (kq [0,3,4,5,20,21,22] ?_))
  refine nz ?_
  refine T.region ?_
  obtain ⟨g21,H⟩:=gdE H
  refine rp (Pu.addS rfl rfl g21) (rM rfl (RS.nil ?_))
  refine id (hL9 _ _ (v13 + 1) () H sb sb (fun w s=>s.pc [0,1,2,3,4,5]))
 refine T.xt ?_
 obtain rfl:=hd9 _ H
 refine id (hJ9 _ _ () () HX9 sb trivial (fun w s=>s))
theorem mover_ends_walk {w0:World} {F:Ch} (g0:Nat) (gf:Nat) (a0_m:Mvr) (a1_u:Unt) (a2_state:Int) {r:Mvr} (H:mover_ends a0_m a1_u a2_state = some r) (w:World) (s:Sat w0 [Mvr_ch g0 gf a0_m,F] w):Calls Tryz.prog 211 #[.pointer (some ⟨g0,0,none⟩),.agg #[.int .i64 a1_u.id,.int .i64 a1_u.owner,.int .i64 a1_u.kind,.int .i64 a1_u.pos.x,.int .i64 a1_u.pos.y,.int .i64 a1_u.goal,.int .i64 a1_u.next,.int .i64 a1_u.stuck,.int .i64 a1_u.inn,.int .i64 a1_u.state],.int .i64 a2_state] w fun e w'=>e = .returned (.tuple #[])∧Sat w0 [Mvr_ch g0 gf r,F] w':=by
 unfold mover_ends at H
 refine te Tryz.func211 s ?_
 refine T.seq fun _ k1=>T.region (RS.solid (Sd.box (cs:=[_,_,_,_,_,_,_,_,_,_]) rfl rfl) rfl rfl fun b1=>RS.nil (k1 _ _ ?_))
 refine T.seq fun _ k2=>T.region (au 9 ?_)
 refine RS.nil (k2 _ _ (kq [0,4] ?_))
 refine T.ex (fun w s=>Mvr_open 0 rfl s) ?_
 rintro gs2
 refine nz ?_
 refine dr mixed [0,0,0,1,1,4] ?_
 refine au 5 ?_
 obtain ⟨x3,hx3,H⟩:=bindE H
 refine RD.solid rfl (.inr rfl) rfl rfl (Sd.callF0 3 ent189 rfl rfl (fun w s=>army_Put_walk gs2 a0_m.s (⟨a1_u.id,a1_u.owner,a1_u.kind,a1_u.pos,(-1),(-1),0,a1_u.inn,a2_state⟩:Unt)  hx3 w s)) (fun _=>ClE.sat _ _) (fun _ _ _=>trivial) (fun h=>nomatch h) fun _=>?_
 refine RD.nil ?_
 refine Cont.wk (fun w s=>(Sat.sP [1,2] [0,3,4] s (Mvr_shut (x:=(⟨x3,a0_m.f⟩:Mvr)) gs2))) ?_
 obtain rfl:=sj H
 refine id ?_
 repeat with_reducible refine Cont.inB ?_
 refine Cont.end0 rfl fun w' s=>?_
 exact ⟨rfl,s.pc [0,1]⟩
theorem mover_looks_walk {w0:World} {F:Ch} (g0:Nat) (gf:Nat) (a0_m:Mvr) (a1_u:Unt) (a2_own:Int) {r:Bool × Mvr} (H:mover_looks a0_m a1_u a2_own = some r) (w:World) (s:Sat w0 [Mvr_ch g0 gf a0_m,F] w):Calls Tryz.prog 213 #[.pointer (some ⟨g0,0,none⟩),.agg #[.int .i64 a1_u.id,.int .i64 a1_u.owner,.int .i64 a1_u.kind,.int .i64 a1_u.pos.x,.int .i64 a1_u.pos.y,.int .i64 a1_u.goal,.int .i64 a1_u.next,.int .i64 a1_u.stuck,.int .i64 a1_u.inn,.int .i64 a1_u.state],.int .i64 a2_own] w fun e w'=>e = .returned (.bool r.1)∧Sat w0 [Mvr_ch g0 gf r.2,F] w':=by
 unfold mover_looks at H
 refine te Tryz.func213 s ?_
 refine T.seq fun _ k1=>T.region (RS.solid (Sd.box (cs:=[_,_,_,_,_,_,_,_,_,_]) rfl rfl) rfl rfl fun b1=>rA rfl (RS.nil (k1 _ _ ?_)))
 refine T.ex (fun w s=>Mvr_open 0 rfl s) ?_
 rintro gs3
 refine nz ?_
 refine T.ex (fun w s=>Std_open 3 rfl s) ?_
 rintro ⟨qt4,qb5,qu6,va7,vb8,vc9,gc10⟩
 refine nz ?_
 refine T.joinA (σ:=Int × Int × Int × Int × Int) (γ:=Nat × Nat) H (fun s=>s) [(0,_),(2,_),(4,_)] sb (fun (v13,v14,v15,v16,v17) (q11,q12)=>[(7,.pointer (some ⟨q11,0,none⟩)),(8,.pointer (some ⟨q12,0,none⟩))]) (fun (v13,v14,v15,v16,v17) (q11,q12)=>Sat w0 [blk g0 [.pointer (some ⟨gs3,0,none⟩),.iface 100 (.pointer (some ⟨gf,0,none⟩))] 185,F,blk b1 [.int .i64 a1_u.id,.int .i64 a1_u.owner,.int .i64 a1_u.kind,.int .i64 a1_u.pos.x,.int .i64 a1_u.pos.y,.int .i64 a1_u.goal,.int .i64 a1_u.next,.int .i64 a1_u.stuck,.int .i64 a1_u.inn,.int .i64 a1_u.state] 54,blk gs3 [.int .i64 a0_m.s.w.tick,.int .i64 a0_m.s.w.players,.int .i64 a0_m.s.w.nextid,.int .i64 a0_m.s.w.g.w,.int .i64 a0_m.s.w.g.h,rowV qt4 a0_m.s.w.g.tiles.length,rowV qb5 a0_m.s.w.bs.length,rowV qu6 a0_m.s.w.us.length,va7,vb8,vc9,.pointer (some ⟨gc10,0,none⟩)] 164,Fld_ch gf a0_m.f,row nilH 5 (rowV qt4 a0_m.s.w.g.tiles.length) a0_m.s.w.g.tiles,row nilH 135 (rowV qb5 a0_m.s.w.bs.length) a0_m.s.w.bs,row nilH 54 (rowV qu6 a0_m.s.w.us.length) a0_m.s.w.us,opn 4 va7 vb8 vc9 a0_m.s.op,Cells_ch gc10 a0_m.s.cs,blk q11 [.int .i64 a0_m.s.w.g.w,.int .i64 a0_m.s.w.g.h,rowV qt4 a0_m.s.w.g.tiles.length] 24,blk q12 [.int .i64 v13,.int .i64 v14,.int .i64 v15,.int .i64 v16,.int .i64 v17] 73]) ?_ ?_
 ·rintro ⟨v13,v14,v15,v16,v17⟩ ⟨q11,q12⟩ H
  try dsimp only [Ex.then] at H
  refine kq [7,8,0,2,4] ?_
  refine T.seq fun _ k3=>T.seq fun _ k4=>nz ?_
  refine T.drawnS [0,1,2,3,5,6,7,8,9,10,11] [(0,.pu),(1,.wk),(2,.pu),(3,.pu),(4,.pu),(5,.wk),(6,.wk),(7,.pu),(8,.wk),(9,.wk),(10,.pu),(11,.pu),(12,.pu),(13,.pu),(14,.pu),(15,.pu),(16,.wk),(17,.rd),(18,.pu),(19,.pu),(20,.pu),(21,.wk),(22,.pu),(23,.pu),(24,.pu),(25,.rd),(26,.pu),(27,.rd),(28,.pu),(29,.rd),(30,.pu),(31,.pu),(36,.pu),(37,.wk),(32,.br),(33,.pu),(34,.pu),(35,.rd),(38,.pu),(39,.rd),(40,.pu),(41,.pu)] mixed (by kernel_rfl) rfl ?_
  refine au 4 ?_
  refine RD.joinB H 8 32 (fun b20=>.bool b20) [(0,_),(2,_),(4,_),(7,_),(8,_)] sb ?_ ?_
  ·intro b20 H
   refine RD.p (fun w s=>s.pc [0,1,2,3,5,6,7,8,9,10,11]) rfl (Pu.move rfl) rfl rfl ?_
   refine RD.split 33 rfl (fun hc21=>?_) (fun hc21=>?_)
   ·have H:=ifT hc21 H
    refine au 21 ?_
    refine RD.noS rfl (.inr rfl) rfl rfl ?_
    refine au 7 ?_
    refine RD.nil (k4 _ _ ?_)
    refine T.condT rfl ?_
    refine kq [] ?_
    refine au 2 ?_
    refine T.wk (fun w s=>((Sat.sP [0,1,2,4,10,11] [3,5,6,7,8,9] s (Std_shut (x:=a0_m.s) ⟨qt4,qb5,qu6,va7,vb8,vc9,gc10⟩))).pickP [1,2,3,0,4,5,6]) ?_
    refine T.wk (fun w s=>(Sat.sP [1,2,5,6] [0,3,4] s (Mvr_shut (x:=a0_m) gs3))) ?_
    obtain rfl:=sj H
    refine T.rt (Cont.ret1 rfl rfl fun w' s=>?_)
    exact ⟨rfl,s.pc [0,1]⟩
   have H:=ifB hc21 H
   refine au 17 ?_
   refine RD.p (fun w s=>s.pc [0,1,2,3,5,6,7,8,9,10,11]) rfl (Pu.nilCheckI rfl) rfl rfl (au 3 ?_)
   obtain ⟨x22,hx22,H⟩:=bindE H
   refine RD.solid rfl (.inr rfl) rfl rfl (Sd.callX (vs:=[_,_,_,_,_]) 4 (fun a w kn=>run_ifc (meth100Net _) rfl rfl a w kn) rfl (fun w s=>fields_NetO gf a0_m.f a0_m.s.w.g a0_m.s.w.bs v15 v16 (Rd.rest 5 rfl (by decide) (Rd.ofRowN 0 rfl)) (Rd.rest 6 rfl (by decide) (Rd.ofRowN 0 rfl)) hx22 w s)) (fun _=>ClE.sat _ _) (fun _ w s=>s.pc [0,1,2,3,5,6,7,8,9,10,11]) (fun h=>nomatch h) fun ⟨⟨hA23,nb24⟩,hn25⟩=>?_
   obtain ⟨v28,v29,hb30,ht31,hf32⟩:=hn25
   obtain ⟨p26,cc27,rfl⟩:=R_form hf32
   refine au 2 ?_
   refine RD.q (fun w s=>s.pc [0,1,2,3,5,6,7,8,9,10,11]) rfl (Qt.ldFz 12 rfl ty41.h rfl hb30 rfl) rfl rfl ?_
   obtain ⟨g33,H⟩:=gdE H
   obtain ⟨bl34,ol35,rfl⟩:=R_ptr hf32 (ne_of_pos (pos_of g33))
   refine RD.p (fun w s=>s.pc [0,1,2,3,5,6,7,8,9,10,11]) rfl (Pu.indexSl sl41.h rfl rfl g33) rfl rfl (RD.q (fun w s=>s.pc [0,1,2,3,5,6,7,8,9,10,11]) rfl (Qt.ld0 (α:=Bool) (Rd.ofFz 12 rfl hf32) ty4.h rfl rfl g33 (by rintro _ _ rfl; rfl)) rfl rfl (au 2 ?_))
   refine RD.nil (k4 _ _ ?_)
   refine T.cB H rfl (fun hc36 H=>?_) (fun hc36 H=>?_)
   ·refine kq [] ?_
    refine au 2 ?_
    refine T.wk (fun w s=>((Sat.sP [0,1,2,4,10,11,12] [3,5,6,7,8,9] s (Std_shut (x:=a0_m.s) ⟨qt4,qb5,qu6,va7,vb8,vc9,gc10⟩))).pickP [1,2,3,0,4,5,6,7]) ?_
    refine T.wk (fun w s=>((Sat.sP [0,1,2,3,5,6] [4,7] s (FldO_shut hA23))).pickP [1,2,3,4,0,5,6]) ?_
    refine T.wk (fun w s=>(Sat.sP [1,2,5,6] [0,3,4] s (Mvr_shut (x:=(⟨a0_m.s,x22.2⟩:Mvr)) gs3))) ?_
    obtain rfl:=sj H
    refine T.rt (Cont.ret1 rfl rfl fun w' s=>?_)
    exact ⟨rfl,s.pc [0,1]⟩
   refine T.skip (k3 _ _ (kq [2,4,7] ?_))
   refine T.seq fun _ k7=>nz ?_
   refine T.region (au 2 ?_)
   obtain ⟨x37,hx37,H⟩:=bindE H
   refine rq (Qt.call (vs:=[_,_]) ent269 rfl fun w s=>ground_Beside_fwalk a0_m.s.w.g a2_own w  hx37) (RS.solid (Sd.alloc (cs:=nums (List.replicate 8 0)) zr343 rfl) rfl rfl fun b38=>?_)
   obtain ⟨g39,H⟩:=gdE H
   refine RS.solid (Sd.stB (cs':=nums x37) (us:=nums x37) 13 ty343.h rfl rfl rfl (by first | rfl | simp [Value.cells]) (by simp [nums,(g39).2]) (by simp [nums,(g39).1]) (by simp [nums,Value.oneCell']) (by rw [List.take_zero,List.nil_append,List.drop_of_length_le (by simp [nums,(g39).1]),List.append_nil])) rfl rfl fun _=>RS.nil (k7 _ _ (kq [2,4,9] ?_))
   refine T.seq fun _ k8=>nz ?_
   refine dr mixed [0,1,0,0,0,0,0,1,1,0,0,0] ?_
   refine au 5 ?_
   refine RD.joinB H 6 76 (fun b42=>.bool b42) [] trivial ?_ ?_
   ·intro b42 H
    refine dp rfl (Pu.assign rfl) (RD.nil (k8 _ _ ?_))
    refine T.wk (fun w s=>((Sat.sP [0,1,2,4,10,11,12,13] [3,5,6,7,8,9] s (Std_shut (x:=a0_m.s) ⟨qt4,qb5,qu6,va7,vb8,vc9,gc10⟩))).pickP [1,2,3,0,4,5,6,7,8]) ?_
    refine T.wk (fun w s=>((Sat.sP [0,1,2,3,5,6,8] [4,7] s (FldO_shut hA23))).pickP [1,2,3,4,0,5,6,7]) ?_
    refine T.wk (fun w s=>(Sat.sP [1,2,5,6,7] [0,3,4] s (Mvr_shut (x:=(⟨a0_m.s,x22.2⟩:Mvr)) gs3))) ?_
    obtain rfl:=sj H
    refine T.rt (Cont.ret1 rfl rfl fun w' s=>?_)
    exact ⟨rfl,s.pc [0,1]⟩
   intro z43 H hJ41
   refine RD.splitP 70 rfl (fun hc40=>?_) (fun hc40=>?_)
   ·have H:=ifT hc40 H
    obtain ⟨g44,H⟩:=gdE H
    refine dp rfl (Pu.sliceArA ar343 rfl) (au 2 ?_)
    obtain ⟨x45,hx45,H⟩:=bindE H
    refine dq rfl (Qt.call (vs:=[_,_]) ent270 rfl fun w s=>slices_Contains_walk x37 a1_u.next w ((Rd.ofArr 13 rfl g44 (by decide)) w s) hx45) (au 2 ?_)
    obtain rfl:=sj H
    exact hJ41 _ sb
   have H:=ifF hc40 H
   refine au 6 ?_
   obtain rfl:=sj H
   exact hJ41 _ sb
  intro z46 H hJ19
  refine RD.splitP 24 rfl (fun hc18=>?_) (fun hc18=>?_)
  ·have H:=ifT hc18 H
   refine au 8 ?_
   obtain rfl:=sj H
   exact hJ19 _ sb
  have H:=ifF hc18 H
  refine au 5 ?_
  obtain ⟨x47,hx47,H⟩:=bindE H
  refine RD.w (fun w s=>s.pc [0,1,2,3,5,6,7,8,9,10,11]) rfl (Qt.call (vs:=[_,_]) ent198 rfl fun w s=>ground_Mid_fwalk a0_m.s.w.g a1_u.next w  hx47) rfl rfl ?_
  refine RD.p (fun w s=>s.pc [0,1,2,3,5,6,7,8,9,10,11]) rfl (Pu.eqSt eqt33 rfl rfl rfl (eq_Vec a1_u.pos x47)) rfl rfl (RD.p (fun w s=>s.pc [0,1,2,3,5,6,7,8,9,10,11]) rfl (Pu.pickF rfl rfl) rfl rfl ?_)
  obtain rfl:=sj H
  exact hJ19 _ sb
 intro z2 H HX2 K2 hJ2
 refine nz ?_
 refine T.drawnTS [0,1,2,3,4,5,6,7,8,9] [(0,.pu),(1,.pu),(2,.pu),(3,.rd),(4,.pu),(5,.pu),(6,.pu),(7,.rd),(8,.pu),(9,.wk),(10,.rd),(11,.so),(12,.so),(13,.br),(14,.br)] (.st 0 .pu (.st 1 .pu (.st 2 .pu (.st 3 .rd (.st 4 .pu (.st 5 .pu (.st 6 .pu (.st 7 .rd (.st 8 .pu (.st 9 .wk (.st 10 .rd (.two 11 .so (.st 12 .so (.st 13 .br (.st 14 .br .nil))) 12 .so (.st 11 .so (.st 13 .br (.st 14 .br .nil))))))))))))))) mixed (by kernel_rfl) rfl ?_
 refine RT.p (fun w s=>s.pc [0,1,2,3,4,5,6,7,8,9]) rfl (Pu.move rfl) rfl rfl (RT.p (fun w s=>s.pc [0,1,2,3,4,5,6,7,8,9]) rfl (Pu.nilCheck rfl) rfl rfl (RT.p (fun w s=>s.pc [0,1,2,3,4,5,6,7,8,9]) rfl (Pu.fieldAddr fd185_0.h rfl) rfl rfl (RT.q (fun w s=>s.pc [0,1,2,3,4,5,6,7,8,9]) rfl (Qt.ldB 0 ty150.h rfl rfl rfl) rfl rfl (RT.p (fun w s=>s.pc [0,1,2,3,4,5,6,7,8,9]) rfl (Pu.nilCheck rfl) rfl rfl (RT.p (fun w s=>s.pc [0,1,2,3,4,5,6,7,8,9]) rfl (Pu.fieldAddr fd164_0.h rfl) rfl rfl (RT.p (fun w s=>s.pc [0,1,2,3,4,5,6,7,8,9]) rfl (Pu.fieldAddr fd52_3.h rfl) rfl rfl (RT.q (fun w s=>s.pc [0,1,2,3,4,5,6,7,8,9]) rfl (Qt.ldBA (us:=[_,_,_]) 3 ty24.h rfl rfl rfl rfl) rfl rfl (RT.p (fun w s=>s.pc [0,1,2,3,4,5,6,7,8,9]) rfl (Pu.fieldAddr fd54_2.h rfl) rfl rfl ?_))))))))
 refine RT.w (fun w s=>s.pc [0,1,2,3,4,5,6,7,8,9]) rfl (Qt.ldB 2 ty3.h rfl rfl rfl) rfl rfl ?_
 obtain ⟨x48,hx48,H⟩:=bindE H
 refine RT.q (fun w s=>s.pc [0,1,2,3,4,5,6,7,8,9]) rfl (Qt.call (vs:=[_]) ent118 rfl fun w s=>kind_What_walk a1_u.kind w  hx48) rfl rfl ?_
 refine RT.two ?_ ?_
 ·refine RT1.solid rfl (.inl rfl) rfl rfl (Sd.alloc zr24 rfl) (fun _=>ClE.sat _ _) (fun _ w s=>s.pc [0,1,2,3,4,5,6,7,8,9]) (fun _ _ _ s=>s.drop1) fun b249=>?_
  refine RT.solid rfl (.inl rfl) rfl rfl (Sd.alloc zr73 rfl) (fun _=>ClE.sat _ _) (fun _ w s=>s.pc [0,1,2,3,4,5,6,7,8,9]) (fun _ _ _ s=>s.drop1) fun b250=>?_
  refine RT.solid rfl (.inr rfl) rfl rfl (Sd.stB (cs':=[_,_,_]) 10 ty24.h rfl rfl rfl rfl rfl rfl rfl rfl) (fun _=>ClE.sat _ _) (fun _ w s=>s.pc [0,1,2,3,4,5,6,7,8,9]) (fun h=>nomatch h) fun _=>?_
  refine RT.solid rfl (.inr rfl) rfl rfl (Sd.stB (cs':=[_,_,_,_,_]) 11 ty73.h rfl rfl rfl rfl rfl rfl rfl rfl) (fun _=>ClE.sat _ _) (fun _ w s=>s.pc [0,1,2,3,4,5,6,7,8,9]) (fun h=>nomatch h) fun _=>?_
  obtain rfl:=sj H
  refine RT.nil (hJ2 _ _ (x48.radius,x48.speed,x48.cls,x48.size,x48.room) (b249,b250) HX2 sb sb (fun w s=>s))
 refine RT1.solid rfl (.inl rfl) rfl rfl (Sd.alloc zr73 rfl) (fun _=>ClE.sat _ _) (fun _ w s=>s.pc [0,1,2,3,4,5,6,7,8,9]) (fun _ _ _ s=>s.drop1) fun b251=>?_
 refine RT.solid rfl (.inl rfl) rfl rfl (Sd.alloc zr24 rfl) (fun _=>ClE.sat _ _) (fun _ w s=>s.pc [0,1,2,3,4,5,6,7,8,9]) (fun _ _ _ s=>s.drop1) fun b252=>?_
 refine RT.solid rfl (.inr rfl) rfl rfl (Sd.stB (cs':=[_,_,_]) 11 ty24.h rfl rfl rfl rfl rfl rfl rfl rfl) (fun _=>ClE.sat _ _) (fun _ w s=>s.pc [0,1,2,3,4,5,6,7,8,9]) (fun h=>nomatch h) fun _=>?_
 refine RT.solid rfl (.inr rfl) rfl rfl (Sd.stB (cs':=[_,_,_,_,_]) 10 ty73.h rfl rfl rfl rfl rfl rfl rfl rfl) (fun _=>ClE.sat _ _) (fun _ w s=>s.pc [0,1,2,3,4,5,6,7,8,9]) (fun h=>nomatch h) fun _=>?_
 obtain rfl:=sj H
 refine RT.nil (hJ2 _ _ (x48.radius,x48.speed,x48.cls,x48.size,x48.room) (b252,b251) HX2 sb sb (fun w s=>s.pc [0,1,2,3,4,5,6,7,8,9,11,10]))
theorem mover_next_walk {w0:World} {F:Ch} (g0:Nat) (gf:Nat) (a0_m:Mvr) (a1_u:Unt) (a2_own:Int) {r:Int × Mvr} (H:mover_next a0_m a1_u a2_own = some r) (w:World) (s:Sat w0 [Mvr_ch g0 gf a0_m,F] w):Calls Tryz.prog 214 #[.pointer (some ⟨g0,0,none⟩),.agg #[.int .i64 a1_u.id,.int .i64 a1_u.owner,.int .i64 a1_u.kind,.int .i64 a1_u.pos.x,.int .i64 a1_u.pos.y,.int .i64 a1_u.goal,.int .i64 a1_u.next,.int .i64 a1_u.stuck,.int .i64 a1_u.inn,.int .i64 a1_u.state],.int .i64 a2_own] w fun e w'=>e = .returned (.int .i64 r.1)∧Sat w0 [Mvr_ch g0 gf r.2,F] w':=by
 unfold mover_next at H
 refine te Tryz.func214 s ?_
 refine T.seq fun _ k1=>T.region (RS.solid (Sd.box (cs:=[_,_,_,_,_,_,_,_,_,_]) rfl rfl) rfl rfl fun b1=>rA rfl (RS.nil (k1 _ _ ?_)))
 refine T.ex (fun w s=>Mvr_open 0 rfl s) ?_
 rintro gs3
 refine nz ?_
 refine T.ex (fun w s=>Std_open 3 rfl s) ?_
 rintro ⟨qt4,qb5,qu6,va7,vb8,vc9,gc10⟩
 refine nz ?_
 refine T.joinA (σ:=Int × Int × Int × Int × Int) (γ:=Nat × Nat) H (fun s=>s) [(0,_),(2,_),(4,_)] sb (fun (v13,v14,v15,v16,v17) (q11,q12)=>[(7,.pointer (some ⟨q11,0,none⟩)),(8,.pointer (some ⟨q12,0,none⟩))]) (fun (v13,v14,v15,v16,v17) (q11,q12)=>Sat w0 [blk g0 [.pointer (some ⟨gs3,0,none⟩),.iface 100 (.pointer (some ⟨gf,0,none⟩))] 185,F,blk b1 [.int .i64 a1_u.id,.int .i64 a1_u.owner,.int .i64 a1_u.kind,.int .i64 a1_u.pos.x,.int .i64 a1_u.pos.y,.int .i64 a1_u.goal,.int .i64 a1_u.next,.int .i64 a1_u.stuck,.int .i64 a1_u.inn,.int .i64 a1_u.state] 54,blk gs3 [.int .i64 a0_m.s.w.tick,.int .i64 a0_m.s.w.players,.int .i64 a0_m.s.w.nextid,.int .i64 a0_m.s.w.g.w,.int .i64 a0_m.s.w.g.h,rowV qt4 a0_m.s.w.g.tiles.length,rowV qb5 a0_m.s.w.bs.length,rowV qu6 a0_m.s.w.us.length,va7,vb8,vc9,.pointer (some ⟨gc10,0,none⟩)] 164,Fld_ch gf a0_m.f,row nilH 5 (rowV qt4 a0_m.s.w.g.tiles.length) a0_m.s.w.g.tiles,row nilH 135 (rowV qb5 a0_m.s.w.bs.length) a0_m.s.w.bs,row nilH 54 (rowV qu6 a0_m.s.w.us.length) a0_m.s.w.us,opn 4 va7 vb8 vc9 a0_m.s.op,Cells_ch gc10 a0_m.s.cs,blk q11 [.int .i64 a0_m.s.w.g.w,.int .i64 a0_m.s.w.g.h,rowV qt4 a0_m.s.w.g.tiles.length] 24,blk q12 [.int .i64 v13,.int .i64 v14,.int .i64 v15,.int .i64 v16,.int .i64 v17] 73]) ?_ ?_
 ·rintro ⟨v13,v14,v15,v16,v17⟩ ⟨q11,q12⟩ H
  try dsimp only [Ex.then] at H
  refine kq [7,8,0,2,4] ?_
  refine T.seq fun _ k3=>T.seq fun _ k4=>nz ?_
  refine dr mixed [0,1,1,0,1,0] ?_
  refine au 4 ?_
  obtain ⟨x18,hx18,H⟩:=bindE H
  refine dq rfl (Qt.call (vs:=[_,_]) ent198 rfl fun w s=>ground_Mid_fwalk a0_m.s.w.g a2_own w  hx18) (dp rfl (Pu.neSt eqt33 rfl rfl rfl (eq_Vec a1_u.pos x18)) (RD.nil (k4 _ _ ?_)))
  refine T.cP H rfl (fun _ H=>nomatch H) (fun hc19 H=>?_)
  refine T.skip (k3 _ _ (kq [0,2,4,7,8] ?_))
  refine T.seq fun _ k6=>nz ?_
  refine T.drawnS [0,1,2,3,5,6,7,8,9,10,11] [(0,.pu),(1,.pu),(2,.pu),(3,.wk),(4,.rd),(5,.pu),(6,.pu),(7,.pu),(8,.wk),(9,.pu),(10,.pu),(11,.pu),(12,.rd),(13,.pu),(14,.rd),(15,.pu),(16,.rd),(17,.pu),(18,.rd),(19,.pu),(20,.pu),(22,.pu),(21,.br),(23,.pu),(24,.rd),(25,.pu)] mixed (by kernel_rfl) rfl ?_
  refine au 19 ?_
  refine RD.p (fun w s=>s.pc [0,1,2,3,5,6,7,8,9,10,11]) rfl (Pu.nilCheckI rfl) rfl rfl (au 2 ?_)
  obtain ⟨x20,hx20,H⟩:=bindE H
  refine RD.solid rfl (.inr rfl) rfl rfl (Sd.callX (vs:=[_,_,_,_,_,_]) 4 (fun a w kn=>run_ifc (meth100Ways _) rfl rfl a w kn) rfl (fun w s=>fields_WaysO gf a0_m.f a0_m.s.w.g a0_m.s.w.bs v15 v16 a1_u.goal (Rd.rest 5 rfl (by decide) (Rd.ofRowN 0 rfl)) (Rd.rest 6 rfl (by decide) (Rd.ofRowN 0 rfl)) hx20 w s)) (fun _=>ClE.sat _ _) (fun _ w s=>s.pc [0,1,2,3,5,6,7,8,9,10,11]) (fun h=>nomatch h) fun ⟨⟨hA21,nb22⟩,hn23⟩=>?_
  obtain ⟨p24,cc25,rfl⟩:=R_form hn23
  obtain ⟨g26,H⟩:=gdE H
  obtain ⟨bl27,ol28,rfl⟩:=R_ptr hn23 (ne_of_pos (pos_of g26))
  refine RD.p (fun w s=>s.pc [0,1,2,3,5,6,7,8,9,10,11]) rfl (Pu.indexSl sl35.h rfl rfl g26) rfl rfl (RD.q (fun w s=>s.pc [0,1,2,3,5,6,7,8,9,10,11]) rfl (Qt.ld0 (α:=Int) (Rd.ofFz 12 rfl hn23) ty3.h rfl rfl g26 (by rintro _ _ rfl; rfl)) rfl rfl (RD.p (fun w s=>s.pc [0,1,2,3,5,6,7,8,9,10,11]) rfl (Pu.assign rfl) rfl rfl (RD.nil (k6 _ _ (kq [2,7,9] ?_)))))
  refine T.seq fun _ k7=>au 3 ?_
  refine T.cP H rfl (fun hc29 H=>?_) (fun hc29 H=>?_)
  ·refine kq [] ?_
   refine au 2 ?_
   refine T.wk (fun w s=>((Sat.sP [0,1,2,4,10,11,12] [3,5,6,7,8,9] s (Std_shut (x:=a0_m.s) ⟨qt4,qb5,qu6,va7,vb8,vc9,gc10⟩))).pickP [1,2,3,0,4,5,6,7]) ?_
   refine T.wk (fun w s=>((Sat.sP [0,1,2,3,5,6] [4,7] s (FldO_shut hA21))).pickP [1,2,3,4,0,5,6]) ?_
   refine T.wk (fun w s=>(Sat.sP [1,2,5,6] [0,3,4] s (Mvr_shut (x:=(⟨a0_m.s,x20.2⟩:Mvr)) gs3))) ?_
   obtain rfl:=sj H
   refine T.rt (Cont.ret1 rfl rfl fun w' s=>?_)
   exact ⟨rfl,s.pc [0,1]⟩
  refine T.skip (k7 _ _ ?_)
  refine T.seq fun _ k10=>nz ?_
  refine T.region (au 2 ?_)
  obtain ⟨x30,hx30,H⟩:=bindE H
  refine rq (Qt.call (vs:=[_,_]) ent269 rfl fun w s=>ground_Beside_fwalk a0_m.s.w.g a2_own w  hx30) (rM rfl ?_)
  obtain ⟨g31,H⟩:=gdE H
  refine rp (Pu.indexN (xs:=x30) ar343 ty3.h rfl rfl g31) (rA rfl (RS.nil (k10 _ _ (kq [6] ?_))))
  refine T.wk (fun w s=>((Sat.sP [0,1,2,4,10,11,12] [3,5,6,7,8,9] s (Std_shut (x:=a0_m.s) ⟨qt4,qb5,qu6,va7,vb8,vc9,gc10⟩))).pickP [1,2,3,0,4,5,6,7]) ?_
  refine T.wk (fun w s=>((Sat.sP [0,1,2,3,5,6] [4,7] s (FldO_shut hA21))).pickP [1,2,3,4,0,5,6]) ?_
  refine T.wk (fun w s=>(Sat.sP [1,2,5,6] [0,3,4] s (Mvr_shut (x:=(⟨a0_m.s,x20.2⟩:Mvr)) gs3))) ?_
  obtain rfl:=sj H
  refine T.rt (Cont.ret1 rfl rfl fun w' s=>?_)
  exact ⟨rfl,s.pc [0,1]⟩
 intro z2 H HX2 K2 hJ2
 refine nz ?_
 refine T.drawnTS [0,1,2,3,4,5,6,7,8,9] [(0,.pu),(1,.pu),(2,.pu),(3,.rd),(4,.pu),(5,.pu),(6,.pu),(7,.rd),(8,.pu),(9,.wk),(10,.rd),(11,.so),(12,.so),(13,.br),(14,.br)] (.st 0 .pu (.st 1 .pu (.st 2 .pu (.st 3 .rd (.st 4 .pu (.st 5 .pu (.st 6 .pu (.st 7 .rd (.st 8 .pu (.st 9 .wk (.st 10 .rd (.two 11 .so (.st 12 .so (.st 13 .br (.st 14 .br .nil))) 12 .so (.st 11 .so (.st 13 .br (.st 14 .br .nil))))))))))))))) mixed (by kernel_rfl) rfl ?_
 refine RT.p (fun w s=>s.pc [0,1,2,3,4,5,6,7,8,9]) rfl (Pu.move rfl) rfl rfl (RT.p (fun w s=>s.pc [0,1,2,3,4,5,6,7,8,9]) rfl (Pu.nilCheck rfl) rfl rfl (RT.p (fun w s=>s.pc [0,1,2,3,4,5,6,7,8,9]) rfl (Pu.fieldAddr fd185_0.h rfl) rfl rfl (RT.q (fun w s=>s.pc [0,1,2,3,4,5,6,7,8,9]) rfl (Qt.ldB 0 ty150.h rfl rfl rfl) rfl rfl (RT.p (fun w s=>s.pc [0,1,2,3,4,5,6,7,8,9]) rfl (Pu.nilCheck rfl) rfl rfl (RT.p (fun w s=>s.pc [0,1,2,3,4,5,6,7,8,9]) rfl (Pu.fieldAddr fd164_0.h rfl) rfl rfl (RT.p (fun w s=>s.pc [0,1,2,3,4,5,6,7,8,9]) rfl (Pu.fieldAddr fd52_3.h rfl) rfl rfl (RT.q (fun w s=>s.pc [0,1,2,3,4,5,6,7,8,9]) rfl (Qt.ldBA (us:=[_,_,_]) 3 ty24.h rfl rfl rfl rfl) rfl rfl (RT.p (fun w s=>s.pc [0,1,2,3,4,5,6,7,8,9]) rfl (Pu.fieldAddr fd54_2.h rfl) rfl rfl ?_))))))))
 refine RT.w (fun w s=>s.pc [0,1,2,3,4,5,6,7,8,9]) rfl (Qt.ldB 2 ty3.h rfl rfl rfl) rfl rfl ?_
 obtain ⟨x32,hx32,H⟩:=bindE H
 refine RT.q (fun w s=>s.pc [0,1,2,3,4,5,6,7,8,9]) rfl (Qt.call (vs:=[_]) ent118 rfl fun w s=>kind_What_walk a1_u.kind w  hx32) rfl rfl ?_
 refine RT.two ?_ ?_
 ·refine RT1.solid rfl (.inl rfl) rfl rfl (Sd.alloc zr24 rfl) (fun _=>ClE.sat _ _) (fun _ w s=>s.pc [0,1,2,3,4,5,6,7,8,9]) (fun _ _ _ s=>s.drop1) fun b233=>?_
  refine RT.solid rfl (.inl rfl) rfl rfl (Sd.alloc zr73 rfl) (fun _=>ClE.sat _ _) (fun _ w s=>s.pc [0,1,2,3,4,5,6,7,8,9]) (fun _ _ _ s=>s.drop1) fun b234=>?_
  refine RT.solid rfl (.inr rfl) rfl rfl (Sd.stB (cs':=[_,_,_]) 10 ty24.h rfl rfl rfl rfl rfl rfl rfl rfl) (fun _=>ClE.sat _ _) (fun _ w s=>s.pc [0,1,2,3,4,5,6,7,8,9]) (fun h=>nomatch h) fun _=>?_
  refine RT.solid rfl (.inr rfl) rfl rfl (Sd.stB (cs':=[_,_,_,_,_]) 11 ty73.h rfl rfl rfl rfl rfl rfl rfl rfl) (fun _=>ClE.sat _ _) (fun _ w s=>s.pc [0,1,2,3,4,5,6,7,8,9]) (fun h=>nomatch h) fun _=>?_
  obtain rfl:=sj H
  refine RT.nil (hJ2 _ _ (x32.radius,x32.speed,x32.cls,x32.size,x32.room) (b233,b234) HX2 sb sb (fun w s=>s))
 refine RT1.solid rfl (.inl rfl) rfl rfl (Sd.alloc zr73 rfl) (fun _=>ClE.sat _ _) (fun _ w s=>s.pc [0,1,2,3,4,5,6,7,8,9]) (fun _ _ _ s=>s.drop1) fun b235=>?_
 refine RT.solid rfl (.inl rfl) rfl rfl (Sd.alloc zr24 rfl) (fun _=>ClE.sat _ _) (fun _ w s=>s.pc [0,1,2,3,4,5,6,7,8,9]) (fun _ _ _ s=>s.drop1) fun b236=>?_
 refine RT.solid rfl (.inr rfl) rfl rfl (Sd.stB (cs':=[_,_,_]) 11 ty24.h rfl rfl rfl rfl rfl rfl rfl rfl) (fun _=>ClE.sat _ _) (fun _ w s=>s.pc [0,1,2,3,4,5,6,7,8,9]) (fun h=>nomatch h) fun _=>?_
 refine RT.solid rfl (.inr rfl) rfl rfl (Sd.stB (cs':=[_,_,_,_,_]) 10 ty73.h rfl rfl rfl rfl rfl rfl rfl rfl) (fun _=>ClE.sat _ _) (fun _ w s=>s.pc [0,1,2,3,4,5,6,7,8,9]) (fun h=>nomatch h) fun _=>?_
 obtain rfl:=sj H
 refine RT.nil (hJ2 _ _ (x32.radius,x32.speed,x32.cls,x32.size,x32.room) (b236,b235) HX2 sb sb (fun w s=>s.pc [0,1,2,3,4,5,6,7,8,9,11,10]))
theorem mover_goes_walk {w0:World} {F:Ch} (g0:Nat) (gf:Nat) (a0_m:Mvr) (a1_u:Unt) {r:Mvr} (H:mover_goes a0_m a1_u = some r) (w:World) (s:Sat w0 [Mvr_ch g0 gf a0_m,F] w):Calls Tryz.prog 138 #[.pointer (some ⟨g0,0,none⟩),.agg #[.int .i64 a1_u.id,.int .i64 a1_u.owner,.int .i64 a1_u.kind,.int .i64 a1_u.pos.x,.int .i64 a1_u.pos.y,.int .i64 a1_u.goal,.int .i64 a1_u.next,.int .i64 a1_u.stuck,.int .i64 a1_u.inn,.int .i64 a1_u.state]] w fun e w'=>e = .returned (.tuple #[])∧Sat w0 [Mvr_ch g0 gf r,F] w':=by
 unfold mover_goes at H
 refine te Tryz.func138 s ?_
 refine T.seq fun _ k1=>T.region (RS.solid (Sd.box (cs:=[_,_,_,_,_,_,_,_,_,_]) rfl rfl) rfl rfl fun b1=>RS.nil (k1 _ _ ?_))
 refine T.seq fun _ k2=>T.region (au 2 ?_)
 refine RS.ex (fun w s=>Mvr_open 0 rfl s) ?_
 rintro gs2
 refine au 3 ?_
 refine RS.ex (fun w s=>Std_open 3 rfl s) ?_
 rintro ⟨qt3,qb4,qu5,va6,vb7,vc8,gc9⟩
 refine au 3 ?_
 refine RS.solid (Sd.alloc zr24 rfl) rfl rfl fun b10=>RS.solid (Sd.stB (cs':=[_,_,_]) 10 ty24.h rfl rfl rfl rfl rfl rfl rfl rfl) rfl rfl fun _=>RS.nil (k2 _ _ (kq [0,3,4] ?_))
 refine T.seq fun _ k3=>T.seq fun _ k4=>nz ?_
 refine dr mixed [0,1,1,0,1,1,0] ?_
 refine au 5 ?_
 obtain ⟨x11,hx11,H⟩:=bindE H
 refine dq rfl (Qt.call (vs:=[_,_]) ent198 rfl fun w s=>ground_Mid_fwalk a0_m.s.w.g a1_u.goal w  hx11) (dp rfl (Pu.eqSt eqt33 rfl rfl rfl (eq_Vec a1_u.pos x11)) (RD.nil (k4 _ _ ?_)))
 refine T.cP H rfl (fun hc12 H=>?_) (fun hc12 H=>?_)
 ·refine kq [0,3] ?_
  refine T.seq fun _ k5=>nz ?_
  refine T.region (au 2 ?_)
  refine RS.wk (fun w s=>((Sat.sP [0,1,2,4,10] [3,5,6,7,8,9] s (Std_shut (x:=a0_m.s) ⟨qt3,qb4,qu5,va6,vb7,vc8,gc9⟩))).pickP [1,2,3,0,4,5]) ?_
  refine RS.wk (fun w s=>(Sat.sP [1,2,5] [0,3,4] s (Mvr_shut (x:=a0_m) gs2))) ?_
  obtain ⟨x13,hx13,H⟩:=bindE H
  refine RS.solid (Sd.callF0 0 ent211 rfl rfl (fun w s=>mover_ends_walk g0 gf a0_m a1_u 2  hx13 w s)) rfl rfl fun _=>RS.nil (k5 _ _ (kq [] ?_))
  obtain rfl:=sj H
  refine T.rt (Cont.ret0 rfl fun w' s=>?_)
  exact ⟨rfl,s.pc [0,1]⟩
 refine T.skip (k3 _ _ (kq [0,3,4] ?_))
 refine T.seq fun _ k6=>T.seq fun _ k7=>nz ?_
 refine T.region (au 3 ?_)
 obtain ⟨x14,hx14,H⟩:=bindE H
 refine rq (Qt.call (vs:=[_,_]) ent212 rfl fun w s=>ground_Under_fwalk a0_m.s.w.g a1_u.pos w  hx14) (rA rfl (RS.nil (k7 _ _ (kq [0,3,4,5] ?_))))
 refine T.seq fun _ k8=>nz ?_
 refine T.region (au 3 ?_)
 refine RS.wk (fun w s=>((Sat.sP [0,1,2,4,10] [3,5,6,7,8,9] s (Std_shut (x:=a0_m.s) ⟨qt3,qb4,qu5,va6,vb7,vc8,gc9⟩))).pickP [1,2,3,0,4,5]) ?_
 refine RS.wk (fun w s=>(Sat.sP [1,2,5] [0,3,4] s (Mvr_shut (x:=a0_m) gs2))) ?_
 obtain ⟨x15,hx15,H⟩:=bindE H
 refine RS.solid (Sd.callF0 0 ent213 rfl rfl (fun w s=>mover_looks_walk g0 gf a0_m a1_u x14  hx15 w s)) rfl rfl fun _=>RS.nil (k8 _ _ ?_)
 refine T.joinE (σ:=Mvr × Int) (γ:=Unit) H Ex.go [(0,_),(3,_),(4,_)] sb (fun (v17,v18) _=>[]) (fun (v17,v18) _=>Sat w0 [Mvr_ch g0 gf v17,F,blk b1 [.int .i64 a1_u.id,.int .i64 a1_u.owner,.int .i64 a1_u.kind,.int .i64 a1_u.pos.x,.int .i64 a1_u.pos.y,.int .i64 a1_u.goal,.int .i64 v18,.int .i64 a1_u.stuck,.int .i64 a1_u.inn,.int .i64 a1_u.state] 54,blk b10 [.int .i64 a0_m.s.w.g.w,.int .i64 a0_m.s.w.g.h,rowV qt3 a0_m.s.w.g.tiles.length] 24]) ?_ ?_
 ·rintro ⟨v17,v18⟩ ⟨⟩ H
  try dsimp only [Ex.then] at H
  refine Cont.kq [0,3,4] ?_
  refine id (k6 _ _ ?_)
  refine au 4 ?_
  refine T.seq fun _ k10=>T.region (au 2 ?_)
  refine RS.nil (k10 _ _ (kq [0,3,4,6] ?_))
  refine T.seq fun _ k11=>?_
  refine T.ex (fun w s=>Mvr_open 0 rfl s) ?_
  rintro gs19
  refine nz ?_
  refine dr mixed [0,0,0,1,1,4] ?_
  refine au 5 ?_
  obtain ⟨x20,hx20,H⟩:=bindE H
  refine RD.solid rfl (.inr rfl) rfl rfl (Sd.callF0 4 ent189 rfl rfl (fun w s=>army_Put_walk gs19 v17.s (⟨a1_u.id,a1_u.owner,a1_u.kind,a1_u.pos,a1_u.goal,v18,0,a1_u.inn,a1_u.state⟩:Unt)  hx20 w s)) (fun _=>ClE.sat _ _) (fun _ _ _=>trivial) (fun h=>nomatch h) fun _=>?_
  refine RD.nil (k11 _ _ (kq [0,3,4,6] ?_))
  refine T.seq fun _ k12=>T.seq fun _ k13=>?_
  refine T.wk (fun w s=>(Sat.sP [1,2,3] [0,4,5] s (Mvr_shut (x:=(⟨x20,v17.f⟩:Mvr)) gs19))) ?_
  refine drS mixed [1,2,3] [0,1,0,2,2,0,2,2,0,2,2,0,1,4,0] ?_
  refine au 7 ?_
  obtain ⟨x21,hx21,H⟩:=bindE H
  refine RD.w (fun w s=>s.pc [1,2,3]) rfl (Qt.call (vs:=[_,_]) ent198 rfl fun w s=>ground_Mid_fwalk a0_m.s.w.g v18 w  hx21) rfl rfl ?_
  refine au 2 ?_
  obtain ⟨x22,hx22,H⟩:=bindE H
  refine RD.w (fun w s=>s.pc [1,2,3]) rfl (Qt.call (vs:=[_]) ent118 rfl fun w s=>kind_What_walk a1_u.kind w  hx22) rfl rfl ?_
  refine RD.p (fun w s=>s.pc [1,2,3]) rfl (Pu.fieldS (cs:=[_,_,_,_,_]) fld73_1 ty2.h rfl rfl) rfl rfl ?_
  obtain ⟨x23,hx23,H⟩:=bindE H
  refine RD.q (fun w s=>s.pc [1,2,3]) rfl (Qt.call (vs:=[_,_,_]) ent215 rfl fun w s=>steer_Toward_walk a1_u.pos x21 x22.speed w  hx23) rfl rfl ?_
  obtain ⟨x24,hx24,H⟩:=bindE H
  refine RD.solid rfl (.inr rfl) rfl rfl (Sd.callF0 0 ent209 rfl rfl (fun w s=>mover_try_walk g0 gf (⟨x20,v17.f⟩:Mvr) (⟨a1_u.id,a1_u.owner,a1_u.kind,a1_u.pos,a1_u.goal,v18,0,a1_u.inn,a1_u.state⟩:Unt) x23  hx24 w s)) (fun _=>ClE.sat _ _) (fun _ w s=>s.pc [1,2,3]) (fun h=>nomatch h) fun _=>?_
  refine RD.p (fun w s=>s.pc [1,2,3]) rfl (Pu.bin rfl rfl rfl) rfl rfl (RD.nil (k13 _ _ ?_))
  refine T.cP H rfl (fun hc25 H=>?_) (fun hc25 H=>?_)
  ·obtain rfl:=sj H
   refine T.rt (Cont.ret0 rfl fun w' s=>?_)
   exact ⟨rfl,s.pc [0,1]⟩
  refine T.skip (k12 _ _ (kq [0,3,6] ?_))
  refine T.seq fun _ k14=>T.seq fun _ k15=>?_
  exact nomatch H
 intro z16 H HX16 hJ16
 refine T.cB H rfl (fun hc26 H=>?_) (fun hc26 H=>?_)
 ·refine kq [0,3,4,5] ?_
  refine T.seq fun _ k16=>T.region (au 3 ?_)
  obtain ⟨x27,hx27,H⟩:=bindE H
  refine RS.solid (Sd.callF0 0 ent214 rfl rfl (fun w s=>mover_next_walk g0 gf x15.2 a1_u x14  hx27 w s)) rfl rfl fun _=>au 2 ?_
  refine RS.nil (k16 _ _ (kq [0,3,4] ?_))
  refine au 4 ?_
  refine T.cP H rfl (fun hc28 H=>?_) (fun hc28 H=>?_)
  ·refine kq [0,3] ?_
   refine T.seq fun _ k18=>T.region (au 2 ?_)
   obtain ⟨x29,hx29,H⟩:=bindE H
   refine RS.solid (Sd.callF0 0 ent211 rfl rfl (fun w s=>mover_ends_walk g0 gf x27.2 (⟨a1_u.id,a1_u.owner,a1_u.kind,a1_u.pos,a1_u.goal,x27.1,a1_u.stuck,a1_u.inn,a1_u.state⟩:Unt) 3  hx29 w s)) rfl rfl fun _=>RS.nil (k18 _ _ (kq [] ?_))
   obtain rfl:=sj H
   have H:=HX16
   obtain rfl:=sj H
   refine T.rt (Cont.ret0 rfl fun w' s=>?_)
   exact ⟨rfl,s.pc [0,1]⟩
  obtain rfl:=sj H
  refine T.skip (hJ16 _ _ (x27.2,x27.1) () HX16 sb trivial (fun w s=>s))
 obtain rfl:=sj H
 refine T.skip (hJ16 _ _ (x15.2,a1_u.next) () HX16 sb trivial (fun w s=>s))
theorem mover_unit_walk {w0:World} {F:Ch} (g0:Nat) (gf:Nat) (a0_m:Mvr) (a1_u:Unt) {r:Mvr} (H:mover_unit a0_m a1_u = some r) (w:World) (s:Sat w0 [Mvr_ch g0 gf a0_m,F] w):Calls Tryz.prog 82 #[.pointer (some ⟨g0,0,none⟩),.agg #[.int .i64 a1_u.id,.int .i64 a1_u.owner,.int .i64 a1_u.kind,.int .i64 a1_u.pos.x,.int .i64 a1_u.pos.y,.int .i64 a1_u.goal,.int .i64 a1_u.next,.int .i64 a1_u.stuck,.int .i64 a1_u.inn,.int .i64 a1_u.state]] w fun e w'=>e = .returned (.tuple #[])∧Sat w0 [Mvr_ch g0 gf r,F] w':=by
 unfold mover_unit at H
 refine te Tryz.func82 s ?_
 refine T.seq fun _ k1=>T.region (RS.solid (Sd.box (cs:=[_,_,_,_,_,_,_,_,_,_]) rfl rfl) rfl rfl fun b1=>RS.nil (k1 _ _ ?_))
 refine au 4 ?_
 refine T.cP H rfl (fun hc2 H=>?_) (fun hc2 H=>?_)
 ·refine kq [0,3] ?_
  refine T.region (au 2 ?_)
  obtain ⟨x3,hx3,H⟩:=bindE H
  refine RS.solid (Sd.callF0 0 ent137 rfl rfl (fun w s=>mover_idle_walk g0 gf a0_m a1_u  hx3 w s)) rfl rfl fun _=>?_
  obtain rfl:=sj H
  refine RS.nil ?_
  repeat with_reducible refine Cont.inB ?_
  refine Cont.end0 rfl fun w' s=>?_
  exact ⟨rfl,s.pc [0,1]⟩
 refine kq [0,3] ?_
 refine T.region (au 2 ?_)
 obtain ⟨x4,hx4,H⟩:=bindE H
 refine RS.solid (Sd.callF0 0 ent138 rfl rfl (fun w s=>mover_goes_walk g0 gf a0_m a1_u  hx4 w s)) rfl rfl fun _=>?_
 obtain rfl:=sj H
 refine RS.nil ?_
 repeat with_reducible refine Cont.inB ?_
 refine Cont.end0 rfl fun w' s=>?_
 exact ⟨rfl,s.pc [0,1]⟩
end Go.Proofs.YtmngdgclldkcfaaGreat
