/-
  Texts of one's own, joined: YJ YP LX XC.
-/
import Derived.Test.YtmngdgclldkcfaaGreatRows
import Derived.Test.YtmngdgclldkcfaaGreatJ6
import Derived.Test.YtmngdgclldkcfaaGreatJ7
import Derived.Test.YtmngdgclldkcfaaGreatJ22
import Derived.Test.YtmngdgclldkcfaaGreatJ16
import Derived.Test.YtmngdgclldkcfaaGreatNH
import Derived.Test.YtmngdgclldkcfaaGreatJ20
set_option linter.unusedVariables false
set_option linter.unusedSimpArgs false
set_option maxRecDepth 20000
set_option maxHeartbeats 4000000
namespace Go.Proofs.YtmngdgclldkcfaaGreat
open Go.Vg
open Enc (R)
theorem ent117:Ent Tryz.prog 117:=en Tryz.func117
theorem ent118:Ent Tryz.prog 118:=en Tryz.func118
theorem ent119:Ent Tryz.prog 119:=en Tryz.func119
theorem ent120:Ent Tryz.prog 120:=en Tryz.func120
theorem ent121:Ent Tryz.prog 121:=en Tryz.func121
theorem ent122:Ent Tryz.prog 122:=en Tryz.func122
theorem ent123:Ent Tryz.prog 123:=en Tryz.func123
theorem ent178:Ent Tryz.prog 178:=en Tryz.func178
instance fd164_2:FdC Tryz.prog 164 2 11:={}
instance fd54_3:FdC Tryz.prog 54 3 3:={}
instance fd73_0:FdC Tryz.prog 73 0 0:={}
instance fd73_2:FdC Tryz.prog 73 2 2:={}
theorem fld73_0:fldTy Tryz.prog 73 0 = some (2,0):=by kernel_rfl
theorem army_Near_walk {w0:World} {F:Ch} (g0:Nat) (a0_s:Std) (a1_p:Vec) (a2_r:Int) {r:List Unt} (H:army_Near a0_s a1_p a2_r = some r) (w:World) (s:Sat w0 [Std_ch g0 a0_s,F] w):Calls Tryz.prog 121 #[.pointer (some ⟨g0,0,none⟩),.agg #[.int .i64 a1_p.x,.int .i64 a1_p.y],.int .i64 a2_r] w fun e w'=>∃ q1:(Option Nat × Nat),e = .returned (rowV q1 r.length)∧Sat w0 ([Std_ch g0 a0_s,F] ++ [row nilH 54 (rowV q1 r.length) r]) w':=by
 unfold army_Near at H
 refine te Tryz.func121 s ?_
 refine T.seq fun _ k1=>T.region (RS.solid (Sd.box (cs:=[_,_]) rfl rfl) rfl rfl fun b1=>rA rfl (RS.nil (k1 _ _ ?_)))
 refine T.seq fun _ k2=>T.seq fun _ k3=>?_
 refine T.ex (fun w s=>Std_open 0 rfl s) ?_
 rintro ⟨qt2,qb3,qu4,va5,vb6,vc7,gc8⟩
 refine nz ?_
 refine T.drawn (fun _=>True) [(0,.pu),(1,.pu),(2,.pu),(3,.rd),(4,.rd),(5,.pu),(6,.pu),(9,.pu),(7,.so),(8,.pu)] mixed (ClE.sat _ _) (by kernel_rfl) ?_
 refine au 6 ?_
 obtain ⟨g9,H⟩:=gdE H
 refine dp rfl (Pu.addS rfl rfl g9) (dp rfl (Pu.move rfl) ?_)
 obtain ⟨x10,hx10,H⟩:=bindE H
 refine RD.solid rfl (.inl rfl) rfl rfl (Sd.callF 7 ent178 rfl rfl (fun w s=>cells_Near_walk gc8 a0_s.cs a1_p (a2_r + 81920)  hx10 w s)) (fun _=>ClE.sat _ _) (fun _ _ _=>trivial) (fun _ _ _ s=>s.pc [0,1,2,3,4,5,6,7]) fun q11=>?_
 refine dp rfl (Pu.lenSl sl35.h rfl) (RD.nil (k3 _ _ (kq [0,6,18,19,20] ?_)))
 refine T.wk (fun w s=>(Sat.sP [1,2,8] [0,3,4,5,6,7] s (Std_shut (x:=a0_s) ⟨qt2,qb3,qu4,va5,vb6,vc7,gc8⟩))) ?_
 refine T.joinE (σ:=List Unt) (γ:=(Option Nat × Nat)) H (fun s=>s) [] trivial (fun v13 q14=>[(6,rowV q14 v13.length)]) (fun v13 q14=>Sat w0 [Std_ch g0 a0_s,F,blk b1 [.int .i64 a1_p.x,.int .i64 a1_p.y] 33,row nilH 3 (rowV q11 x10.length) x10,row nilH 54 (rowV q14 v13.length) v13]) ?_ ?_
 ·rintro v13 q14 H
  try dsimp only [Ex.then] at H
  refine Cont.kq [6] ?_
  refine id (k2 _ _ ?_)
  refine au 3 ?_
  obtain rfl:=sj H
  refine T.rt (Cont.ret1 rfl rfl fun w' s=>?_)
  exact ⟨q14,rfl,s.pc [0,1,4]⟩
 intro z12 hz12 HX12 hJ12
 refine T.block ?_
 refine T.loopA (γ:=(Option Nat × Nat)) hz12 [(0,_),(18,_),(19,_)] (fun (l15,v17) q16=>[(6,rowV q16 l15.length),(20,.int .i64 v17)]) (fun (l15,v17) q16=>Sat w0 [Std_ch g0 a0_s,F,blk b1 [.int .i64 a1_p.x,.int .i64 a1_p.y] 33,row nilH 3 (rowV q11 x10.length) x10,row nilH 54 (rowV q16 l15.length) l15]) (none,0) sb sb (fun w s=>(s.nilRow (α:=Unt) 54).pick [0,1,2,3,4] (by decide) rfl) ?_
 rintro ⟨l15,v17⟩ q16 y18 H hd12 KL12 hL12
 try dsimp only [Ex.then] at H
 refine kq [6,20,0,18,19] ?_
 refine au 2 ?_
 refine T.seq fun _ k6=>?_
 refine T.cP H rfl (fun hc19 H=>?_) (fun hc19 H=>?_)
 ·refine T.skip (k6 _ _ ?_)
  refine T.seq fun _ k7=>T.block (T.seq fun _ k8=>T.region ?_)
  obtain ⟨g20,H⟩:=gdE H
  refine RS.know (p:=∃ g cap,q11 = (some g,cap)) (fun w s=>(s.row_some (k:=3) rfl (pos_of g20))) ?_
  rintro ⟨gg21,cc22,rfl⟩
  refine rp (Pu.indexSl sl35.h rfl rfl g20) (rq (Qt.ld0 (α:=Int) (Rd.ofRowN 3 rfl) ty3.h rfl rfl g20 (by rintro _ _ rfl; rfl)) (rA rfl (RS.nil (k8 _ _ (kq [0,6,8,18,19,20] ?_)))))
  refine T.seq fun _ k9=>T.region (au 2 ?_)
  refine RS.ex (fun w s=>Std_open 0 rfl s) ?_
  rintro ⟨qt23,qb24,qu25,va26,vb27,vc28,gc29⟩
  refine au 4 ?_
  obtain ⟨x30,hx30,H⟩:=bindE H
  refine rq (Qt.call (vs:=[_,_]) ent123 rfl fun w s=>army_At_walk a0_s.w.us (gi x10 v17) w ((Rd.ofRowN 7 rfl) w s) hx30) (au 5 ?_)
  refine RS.nil (k9 _ _ (kq [0,6,9,18,19,20] ?_))
  refine nz ?_
  refine T.region (au 7 ?_)
  obtain ⟨g31,H⟩:=gdE H
  refine RS.know (p:=∃ g cap,qu25 = (some g,cap)) (fun w s=>(s.row_some (k:=7) rfl (pos_of g31))) ?_
  rintro ⟨gg32,cc33,rfl⟩
  refine rp (Pu.indexSl sl50.h rfl rfl g31) (rq (Qt.ldW (α:=Unt) (cs:=[_,_,_,_,_,_,_,_,_,_]) (Rd.ofRowN 7 rfl) ty54.h rfl rfl g31 rfl (by rintro _ _ rfl; rfl)) (RS.solid (Sd.litS (cs:=[_,_,_,_,_,_,_,_,_,_]) sl50.h zr54 rfl rfl rfl rfl rfl) rfl rfl fun b34=>?_))
  obtain ⟨g36,H⟩:=gdE H
  refine RS.solid (Sd.app1c (α:=Unt) 4 10 (gi a0_s.w.us x30.1) rfl rfl (nilH_lt _) sl50.h zr54 rfl rfl rfl rfl g36 (by decide)) rfl rfl fun q35=>rA rfl (RS.nil (k7 _ _ (kq [0,6,18,19,20] ?_)))
  refine nz ?_
  refine T.region ?_
  obtain ⟨g37,H⟩:=gdE H
  refine rp (Pu.addS rfl rfl g37) (rM rfl (RS.nil ?_))
  refine Cont.wk (fun w s=>(Sat.sP [1,2,3,4,10] [0,5,6,7,8,9] s (Std_shut (x:=a0_s) ⟨qt23,qb24,(some gg32,cc33),va26,vb27,vc28,gc29⟩))) ?_
  refine id (hL12 _ _ ((l15 ++ [(gi a0_s.w.us x30.1)]),(v17 + 1)) q35 H sb sb (fun w s=>s.pc [0,1,2,3,4]))
 refine T.xt ?_
 obtain rfl:=hd12 _ H
 refine id (hJ12 _ _ l15 q16 HX12 trivial sb (fun w s=>s))
theorem army_Place_walk {w0:World} {F:Ch} (g0:Nat) (a0_s:Std) (a1_id:Int) (a2_k:Int) (a3_p:Vec) {r:Bool × Std} (H:army_Place a0_s a1_id a2_k a3_p = some r) (w:World) (s:Sat w0 [Std_ch g0 a0_s,F] w):Calls Tryz.prog 72 #[.pointer (some ⟨g0,0,none⟩),.int .i64 a1_id,.int .i64 a2_k,.agg #[.int .i64 a3_p.x,.int .i64 a3_p.y]] w fun e w'=>e = .returned (.bool r.1)∧Sat w0 [Std_ch g0 r.2,F] w':=by
 unfold army_Place at H
 refine te Tryz.func72 s ?_
 refine T.seq fun _ k1=>T.region (RS.solid (Sd.box (cs:=[_,_]) rfl rfl) rfl rfl fun b1=>rA rfl (RS.nil (k1 _ _ ?_)))
 refine T.seq fun _ k2=>T.region (rM rfl ?_)
 obtain ⟨x2,hx2,H⟩:=bindE H
 refine rq (Qt.call (vs:=[_]) ent118 rfl fun w s=>kind_What_walk a2_k w  hx2) (RS.solid (Sd.alloc zr73 rfl) rfl rfl fun b3=>RS.solid (Sd.stB (cs':=[_,_,_,_,_]) 3 ty73.h rfl rfl rfl rfl rfl rfl rfl rfl) rfl rfl fun _=>RS.nil (k2 _ _ (kq [0,1,7,9] ?_)))
 refine T.seq fun _ k3=>T.seq fun _ k4=>?_
 refine T.ex (fun w s=>Std_open 0 rfl s) ?_
 rintro ⟨qt4,qb5,qu6,va7,vb8,vc9,gc10⟩
 refine nz ?_
 refine T.drawn (Sat w0 [(exch fun v:Value × Value × Value=>blk g0 [.int .i64 a0_s.w.tick,.int .i64 a0_s.w.players,.int .i64 a0_s.w.nextid,.int .i64 a0_s.w.g.w,.int .i64 a0_s.w.g.h,rowV qt4 a0_s.w.g.tiles.length,rowV qb5 a0_s.w.bs.length,rowV qu6 a0_s.w.us.length,v.1,v.2.1,v.2.2,.pointer (some ⟨gc10,0,none⟩)] 164),F,blk b1 [.int .i64 a3_p.x,.int .i64 a3_p.y] 33,blk b3 [.int .i64 x2.radius,.int .i64 x2.speed,.int .i64 x2.cls,.int .i64 x2.size,.int .i64 x2.room] 73,row nilH 5 (rowV qt4 a0_s.w.g.tiles.length) a0_s.w.g.tiles,row nilH 135 (rowV qb5 a0_s.w.bs.length) a0_s.w.bs,row nilH 54 (rowV qu6 a0_s.w.us.length) a0_s.w.us,Cells_ch gc10 a0_s.cs]) [(0,.pu),(1,.pu),(2,.pu),(3,.pu),(4,.wk),(5,.pu),(6,.pu),(7,.rd),(9,.wk),(10,.pu),(11,.wk),(8,.br),(12,.rd),(13,.pu)] mixed (ClE.sat _ _) (by kernel_rfl) ?_
 refine RD.p (fun w s=>(s.weaken 0 rfl (exch fun v:Value × Value × Value=>blk g0 [.int .i64 a0_s.w.tick,.int .i64 a0_s.w.players,.int .i64 a0_s.w.nextid,.int .i64 a0_s.w.g.w,.int .i64 a0_s.w.g.h,rowV qt4 a0_s.w.g.tiles.length,rowV qb5 a0_s.w.bs.length,rowV qu6 a0_s.w.us.length,v.1,v.2.1,v.2.2,.pointer (some ⟨gc10,0,none⟩)] 164) fun p hp=>⟨(_,_,_),hp⟩).pick [0,1,2,3,4,5,6,8] (by decide) rfl) rfl (Pu.move rfl) rfl rfl (RD.p (fun w s=>(s.weaken 0 rfl (exch fun v:Value × Value × Value=>blk g0 [.int .i64 a0_s.w.tick,.int .i64 a0_s.w.players,.int .i64 a0_s.w.nextid,.int .i64 a0_s.w.g.w,.int .i64 a0_s.w.g.h,rowV qt4 a0_s.w.g.tiles.length,rowV qb5 a0_s.w.bs.length,rowV qu6 a0_s.w.us.length,v.1,v.2.1,v.2.2,.pointer (some ⟨gc10,0,none⟩)] 164) fun p hp=>⟨(_,_,_),hp⟩).pick [0,1,2,3,4,5,6,8] (by decide) rfl) rfl (Pu.nilCheck rfl) rfl rfl (RD.p (fun w s=>(s.weaken 0 rfl (exch fun v:Value × Value × Value=>blk g0 [.int .i64 a0_s.w.tick,.int .i64 a0_s.w.players,.int .i64 a0_s.w.nextid,.int .i64 a0_s.w.g.w,.int .i64 a0_s.w.g.h,rowV qt4 a0_s.w.g.tiles.length,rowV qb5 a0_s.w.bs.length,rowV qu6 a0_s.w.us.length,v.1,v.2.1,v.2.2,.pointer (some ⟨gc10,0,none⟩)] 164) fun p hp=>⟨(_,_,_),hp⟩).pick [0,1,2,3,4,5,6,8] (by decide) rfl) rfl (Pu.fieldAddr fd164_0.h rfl) rfl rfl (RD.p (fun w s=>(s.weaken 0 rfl (exch fun v:Value × Value × Value=>blk g0 [.int .i64 a0_s.w.tick,.int .i64 a0_s.w.players,.int .i64 a0_s.w.nextid,.int .i64 a0_s.w.g.w,.int .i64 a0_s.w.g.h,rowV qt4 a0_s.w.g.tiles.length,rowV qb5 a0_s.w.bs.length,rowV qu6 a0_s.w.us.length,v.1,v.2.1,v.2.2,.pointer (some ⟨gc10,0,none⟩)] 164) fun p hp=>⟨(_,_,_),hp⟩).pick [0,1,2,3,4,5,6,8] (by decide) rfl) rfl (Pu.fieldAddr fd52_3.h rfl) rfl rfl ?_)))
 refine RD.w (fun w s=>(s.weaken 0 rfl (exch fun v:Value × Value × Value=>blk g0 [.int .i64 a0_s.w.tick,.int .i64 a0_s.w.players,.int .i64 a0_s.w.nextid,.int .i64 a0_s.w.g.w,.int .i64 a0_s.w.g.h,rowV qt4 a0_s.w.g.tiles.length,rowV qb5 a0_s.w.bs.length,rowV qu6 a0_s.w.us.length,v.1,v.2.1,v.2.2,.pointer (some ⟨gc10,0,none⟩)] 164) fun p hp=>⟨(_,_,_),hp⟩).pick [0,1,2,3,4,5,6,8] (by decide) rfl) rfl (Qt.ldBAx (us:=[_,_,_]) 0 ty24.h rfl rfl (fun _=>rfl) rfl) rfl rfl ?_
 refine RD.p (fun w s=>(s.weaken 0 rfl (exch fun v:Value × Value × Value=>blk g0 [.int .i64 a0_s.w.tick,.int .i64 a0_s.w.players,.int .i64 a0_s.w.nextid,.int .i64 a0_s.w.g.w,.int .i64 a0_s.w.g.h,rowV qt4 a0_s.w.g.tiles.length,rowV qb5 a0_s.w.bs.length,rowV qu6 a0_s.w.us.length,v.1,v.2.1,v.2.2,.pointer (some ⟨gc10,0,none⟩)] 164) fun p hp=>⟨(_,_,_),hp⟩).pick [0,1,2,3,4,5,6,8] (by decide) rfl) rfl (Pu.move rfl) rfl rfl (RD.p (fun w s=>(s.weaken 0 rfl (exch fun v:Value × Value × Value=>blk g0 [.int .i64 a0_s.w.tick,.int .i64 a0_s.w.players,.int .i64 a0_s.w.nextid,.int .i64 a0_s.w.g.w,.int .i64 a0_s.w.g.h,rowV qt4 a0_s.w.g.tiles.length,rowV qb5 a0_s.w.bs.length,rowV qu6 a0_s.w.us.length,v.1,v.2.1,v.2.2,.pointer (some ⟨gc10,0,none⟩)] 164) fun p hp=>⟨(_,_,_),hp⟩).pick [0,1,2,3,4,5,6,8] (by decide) rfl) rfl (Pu.fieldAddr fd73_2.h rfl) rfl rfl (RD.q (fun w s=>(s.weaken 0 rfl (exch fun v:Value × Value × Value=>blk g0 [.int .i64 a0_s.w.tick,.int .i64 a0_s.w.players,.int .i64 a0_s.w.nextid,.int .i64 a0_s.w.g.w,.int .i64 a0_s.w.g.h,rowV qt4 a0_s.w.g.tiles.length,rowV qb5 a0_s.w.bs.length,rowV qu6 a0_s.w.us.length,v.1,v.2.1,v.2.2,.pointer (some ⟨gc10,0,none⟩)] 164) fun p hp=>⟨(_,_,_),hp⟩).pick [0,1,2,3,4,5,6,8] (by decide) rfl) rfl (Qt.ldB 3 ty3.h rfl rfl rfl) rfl rfl ?_))
 refine RD.w (fun w s=>(s.weaken 0 rfl (exch fun v:Value × Value × Value=>blk g0 [.int .i64 a0_s.w.tick,.int .i64 a0_s.w.players,.int .i64 a0_s.w.nextid,.int .i64 a0_s.w.g.w,.int .i64 a0_s.w.g.h,rowV qt4 a0_s.w.g.tiles.length,rowV qb5 a0_s.w.bs.length,rowV qu6 a0_s.w.us.length,v.1,v.2.1,v.2.2,.pointer (some ⟨gc10,0,none⟩)] 164) fun p hp=>⟨(_,_,_),hp⟩).pick [0,1,2,3,4,5,6,8] (by decide) rfl) rfl (Qt.ldBA (us:=[_,_]) 2 ty33.h rfl rfl rfl rfl) rfl rfl ?_
 refine RD.p (fun w s=>(s.weaken 0 rfl (exch fun v:Value × Value × Value=>blk g0 [.int .i64 a0_s.w.tick,.int .i64 a0_s.w.players,.int .i64 a0_s.w.nextid,.int .i64 a0_s.w.g.w,.int .i64 a0_s.w.g.h,rowV qt4 a0_s.w.g.tiles.length,rowV qb5 a0_s.w.bs.length,rowV qu6 a0_s.w.us.length,v.1,v.2.1,v.2.2,.pointer (some ⟨gc10,0,none⟩)] 164) fun p hp=>⟨(_,_,_),hp⟩).pick [0,1,2,3,4,5,6,8] (by decide) rfl) rfl (Pu.fieldAddr fd73_0.h rfl) rfl rfl ?_
 refine RD.w (fun w s=>(s.weaken 0 rfl (exch fun v:Value × Value × Value=>blk g0 [.int .i64 a0_s.w.tick,.int .i64 a0_s.w.players,.int .i64 a0_s.w.nextid,.int .i64 a0_s.w.g.w,.int .i64 a0_s.w.g.h,rowV qt4 a0_s.w.g.tiles.length,rowV qb5 a0_s.w.bs.length,rowV qu6 a0_s.w.us.length,v.1,v.2.1,v.2.2,.pointer (some ⟨gc10,0,none⟩)] 164) fun p hp=>⟨(_,_,_),hp⟩).pick [0,1,2,3,4,5,6,8] (by decide) rfl) rfl (Qt.ldB 3 ty2.h rfl rfl rfl) rfl rfl ?_
 obtain ⟨x11,hx11,H⟩:=bindE H
 refine RD.solid rfl (.inr rfl) rfl rfl (Sd.post (S2:=fun z:Value × Value × Value=>Sat w0 [blk g0 [.int .i64 a0_s.w.tick,.int .i64 a0_s.w.players,.int .i64 a0_s.w.nextid,.int .i64 a0_s.w.g.w,.int .i64 a0_s.w.g.h,rowV qt4 a0_s.w.g.tiles.length,rowV qb5 a0_s.w.bs.length,rowV qu6 a0_s.w.us.length,z.1,z.2.1,z.2.2,.pointer (some ⟨gc10,0,none⟩)] 164,F,blk b1 [.int .i64 a3_p.x,.int .i64 a3_p.y] 33,blk b3 [.int .i64 x2.radius,.int .i64 x2.speed,.int .i64 x2.cls,.int .i64 x2.size,.int .i64 x2.room] 73,row nilH 5 (rowV qt4 a0_s.w.g.tiles.length) a0_s.w.g.tiles,row nilH 135 (rowV qb5 a0_s.w.bs.length) a0_s.w.bs,row nilH 54 (rowV qu6 a0_s.w.us.length) a0_s.w.us,opn 4 z.1 z.2.1 z.2.2 x11.2,Cells_ch gc10 a0_s.cs]) (Sd.call ent120 rfl fun w s=>callFr (A:=[_,_]) (B:=[F,blk b1 [.int .i64 a3_p.x,.int .i64 a3_p.y] 33,blk b3 [.int .i64 x2.radius,.int .i64 x2.speed,.int .i64 x2.cls,.int .i64 x2.size,.int .i64 x2.room] 73,row nilH 5 (rowV qt4 a0_s.w.g.tiles.length) a0_s.w.g.tiles,row nilH 135 (rowV qb5 a0_s.w.bs.length) a0_s.w.bs,row nilH 54 (rowV qu6 a0_s.w.us.length) a0_s.w.us,Cells_ch gc10 a0_s.cs]) (fun w s=>army_tiles_walk g0 gc10 a0_s.w.g a0_s.w.bs a0_s.w.tick a0_s.w.players a0_s.w.nextid (rdStars 3 rfl (Rd.ofRowN 0 rfl)) (rdStars 4 rfl (Rd.ofRowN 0 rfl)) a0_s.op x2.cls hx11 w s) (s.pc [0,7,1,2,3,4,5,6,8])) (fun z w s=>s.pc [0,2,3,4,5,6,7,1,8])) (fun _=>ClE.sat _ _) (fun _ w s=>(s.weaken 0 rfl (exch fun v:Value × Value × Value=>blk g0 [.int .i64 a0_s.w.tick,.int .i64 a0_s.w.players,.int .i64 a0_s.w.nextid,.int .i64 a0_s.w.g.w,.int .i64 a0_s.w.g.h,rowV qt4 a0_s.w.g.tiles.length,rowV qb5 a0_s.w.bs.length,rowV qu6 a0_s.w.us.length,v.1,v.2.1,v.2.2,.pointer (some ⟨gc10,0,none⟩)] 164) fun p hp=>⟨(_,_,_),hp⟩).pick [0,1,2,3,4,5,6,8] (by decide) rfl) (fun h=>nomatch h) fun ⟨va12,vb13,vc14⟩=>?_
 obtain ⟨x15,hx15,H⟩:=bindE H
 refine RD.q (fun w s=>(s.weaken 0 rfl (exch fun v:Value × Value × Value=>blk g0 [.int .i64 a0_s.w.tick,.int .i64 a0_s.w.players,.int .i64 a0_s.w.nextid,.int .i64 a0_s.w.g.w,.int .i64 a0_s.w.g.h,rowV qt4 a0_s.w.g.tiles.length,rowV qb5 a0_s.w.bs.length,rowV qu6 a0_s.w.us.length,v.1,v.2.1,v.2.2,.pointer (some ⟨gc10,0,none⟩)] 164) fun p hp=>⟨(_,_,_),hp⟩).pick [0,1,2,3,4,5,6,8] (by decide) rfl) rfl (Qt.call (vs:=[_,_,_,_]) ent119 rfl fun w s=>disc_Fits_walk a0_s.w.g x11.1 a3_p x2.radius w ((Rd.ofRowN 4 rfl) w s) ((Rd.ofOpn 7 rfl (army_tiles_get hx11)) w s) hx15) rfl rfl (RD.p (fun w s=>(s.weaken 0 rfl (exch fun v:Value × Value × Value=>blk g0 [.int .i64 a0_s.w.tick,.int .i64 a0_s.w.players,.int .i64 a0_s.w.nextid,.int .i64 a0_s.w.g.w,.int .i64 a0_s.w.g.h,rowV qt4 a0_s.w.g.tiles.length,rowV qb5 a0_s.w.bs.length,rowV qu6 a0_s.w.us.length,v.1,v.2.1,v.2.2,.pointer (some ⟨gc10,0,none⟩)] 164) fun p hp=>⟨(_,_,_),hp⟩).pick [0,1,2,3,4,5,6,8] (by decide) rfl) rfl (Pu.not rfl) rfl rfl (RD.nil (k4 _ _ ?_)))
 refine T.cB H rfl (fun _ H=>nomatch H) (fun hc16 H=>?_)
 refine T.skip (k3 _ _ (kq [0,1,7,9] ?_))
 refine T.seq fun _ k6=>T.seq fun _ k7=>nz ?_
 refine T.region (au 4 ?_)
 refine RS.wk (fun w s=>(Sat.sP [1,2,3] [0,4,5,6,7,8] s (Std_shut (x:=(⟨a0_s.w,x11.2,a0_s.cs⟩:Std)) ⟨qt4,qb5,qu6,va12,vb13,vc14,gc10⟩))) ?_
 obtain ⟨x17,hx17,H⟩:=bindE H
 refine RS.solid (Sd.callF 0 ent121 rfl rfl (fun w s=>army_Near_walk g0 (⟨a0_s.w,x11.2,a0_s.cs⟩:Std) a3_p x2.radius  hx17 w s)) rfl rfl fun q18=>au 2 ?_
 refine RS.nil (k7 _ _ (kq [1,7,9,32,33,34] ?_))
 refine T.joinE (σ:=Unit) (γ:=Unit) H Ex.go [] trivial (fun _ _=>[]) (fun _ _=>Sat w0 [Std_ch g0 (⟨a0_s.w,x11.2,a0_s.cs⟩:Std),F,blk b1 [.int .i64 a3_p.x,.int .i64 a3_p.y] 33,blk b3 [.int .i64 x2.radius,.int .i64 x2.speed,.int .i64 x2.cls,.int .i64 x2.size,.int .i64 x2.room] 73,row nilH 54 (rowV q18 x17.length) x17]) ?_ ?_
 ·rintro ⟨⟩ ⟨⟩ H
  try dsimp only [Ex.then] at H
  refine Cont.kq [] ?_
  refine id (k6 _ _ ?_)
  refine au 2 ?_
  obtain rfl:=sj H
  refine T.rt (Cont.ret1 rfl rfl fun w' s=>?_)
  exact ⟨rfl,s.pc [0,1]⟩
 intro z19 hz19 HX19 hJ19
 refine T.block ?_
 refine T.loopA (γ:=Unit) hz19 [(1,_),(7,_),(9,_),(32,_),(33,_)] (fun v20 _=>[(34,.int .i64 v20)]) (fun v20 _=>Sat w0 [Std_ch g0 (⟨a0_s.w,x11.2,a0_s.cs⟩:Std),F,blk b1 [.int .i64 a3_p.x,.int .i64 a3_p.y] 33,blk b3 [.int .i64 x2.radius,.int .i64 x2.speed,.int .i64 x2.cls,.int .i64 x2.size,.int .i64 x2.room] 73,row nilH 54 (rowV q18 x17.length) x17]) () sb sb (fun w s=>s) ?_
 rintro v20 ⟨⟩ y21 H hd19 KL19 hL19
 try dsimp only [Ex.then] at H
 refine kq [34,1,7,9,32,33] ?_
 refine au 2 ?_
 refine T.seq fun _ k10=>?_
 refine T.cP H rfl (fun hc22 H=>?_) (fun hc22 H=>?_)
 ·refine T.skip (k10 _ _ ?_)
  refine T.seq fun _ k11=>T.block (T.seq fun _ k12=>T.region ?_)
  obtain ⟨g23,H⟩:=gdE H
  refine RS.know (p:=∃ g cap,q18 = (some g,cap)) (fun w s=>(s.row_some (k:=4) rfl (pos_of g23))) ?_
  rintro ⟨gg24,cc25,rfl⟩
  refine rp (Pu.indexSl sl50.h rfl rfl g23) (rq (Qt.ldW (α:=Unt) (cs:=[_,_,_,_,_,_,_,_,_,_]) (Rd.ofRowN 4 rfl) ty54.h rfl rfl g23 rfl (by rintro _ _ rfl; rfl)) (RS.solid (Sd.alloc zr54 rfl) rfl rfl fun b26=>RS.solid (Sd.stB (cs':=[_,_,_,_,_,_,_,_,_,_]) 5 ty54.h rfl rfl rfl rfl rfl rfl rfl rfl) rfl rfl fun _=>RS.nil (k12 _ _ (kq [1,7,9,11,32,33,34] ?_))))
  refine T.seq fun _ k13=>dr mixed [0,1,0,0,0,1,0,1,0,1,0,1,1,0,1,0,0] ?_
  refine au 5 ?_
  refine RD.joinB H 12 54 (fun b29=>.bool b29) [(1,_),(7,_),(9,_),(32,_),(33,_),(34,_)] sb ?_ ?_
  ·intro b29 H
   refine RD.nil (k13 _ _ ?_)
   refine T.cB H rfl (fun _ H=>nomatch H) (fun hc30 H=>?_)
   refine T.skip (k11 _ _ ?_)
   refine T.region ?_
   obtain ⟨g31,H⟩:=gdE H
   refine rp (Pu.addS rfl rfl g31) (rM rfl (RS.nil ?_))
   refine id (hL19 _ _ (v20 + 1) () H sb sb (fun w s=>s.pc [0,1,2,3,4]))
  intro z32 H hJ28
  refine RD.splitP 42 rfl (fun hc27=>?_) (fun hc27=>?_)
  ·have H:=ifT hc27 H
   refine au 7 ?_
   obtain ⟨x33,hx33,H⟩:=bindE H
   refine dq rfl (Qt.call (vs:=[_]) ent118 rfl fun w s=>kind_What_walk ((gi x17 v20).kind) w  hx33) (dp rfl (Pu.fieldS (cs:=[_,_,_,_,_]) fld73_0 ty2.h rfl rfl) ?_)
   obtain ⟨x34,hx34,H⟩:=bindE H
   refine dq rfl (Qt.call (vs:=[_,_,_,_]) ent122 rfl fun w s=>disc_Apart_walk a3_p x2.radius ((gi x17 v20).pos) x33.radius w  hx34) (au 2 ?_)
   obtain rfl:=sj H
   exact hJ28 _ sb
  have H:=ifF hc27 H
  refine au 12 ?_
  obtain rfl:=sj H
  exact hJ28 _ sb
 refine T.xt ?_
 obtain rfl:=hd19 _ H
 refine id (hJ19 _ _ () () HX19 trivial trivial (fun w s=>s))
theorem army_Put_walk {w0:World} {F:Ch} (g0:Nat) (a0_s:Std) (a1_u:Unt) {r:Std} (H:army_Put a0_s a1_u = some r) (w:World) (s:Sat w0 [Std_ch g0 a0_s,F] w):Calls Tryz.prog 189 #[.pointer (some ⟨g0,0,none⟩),.agg #[.int .i64 a1_u.id,.int .i64 a1_u.owner,.int .i64 a1_u.kind,.int .i64 a1_u.pos.x,.int .i64 a1_u.pos.y,.int .i64 a1_u.goal,.int .i64 a1_u.next,.int .i64 a1_u.stuck,.int .i64 a1_u.inn,.int .i64 a1_u.state]] w fun e w'=>e = .returned (.tuple #[])∧Sat w0 [Std_ch g0 r,F] w':=by
 unfold army_Put at H
 refine te Tryz.func189 s ?_
 refine T.seq fun _ k1=>T.region (RS.solid (Sd.box (cs:=[_,_,_,_,_,_,_,_,_,_]) rfl rfl) rfl rfl fun b1=>RS.nil (k1 _ _ ?_))
 refine T.seq fun _ k2=>?_
 refine T.ex (fun w s=>Std_open 0 rfl s) ?_
 rintro ⟨qt2,qb3,qu4,va5,vb6,vc7,gc8⟩
 refine nz ?_
 refine dr mixed [0,0,0,0,1,0,1,1,0,0,0,0,0] ?_
 refine au 7 ?_
 obtain ⟨x9,hx9,H⟩:=bindE H
 refine dq rfl (Qt.call (vs:=[_,_]) ent123 rfl fun w s=>army_At_walk a0_s.w.us a1_u.id w ((Rd.ofRowN 5 rfl) w s) hx9) (au 5 ?_)
 refine RD.nil (k2 _ _ (kq [0,3,4] ?_))
 refine T.seq fun _ k3=>nz ?_
 refine dr mixed [0,0,0,0,1,0,1,0,4] ?_
 refine au 7 ?_
 obtain ⟨g10,H⟩:=gdE H
 refine RD.know (p:=∃ g cap,qu4 = (some g,cap)) (fun w s=>(s.row_some (k:=5) rfl (pos_of g10))) ?_
 rintro ⟨gg11,cc12,rfl⟩
 refine dp rfl (Pu.indexSl sl50.h rfl rfl g10) (RD.solid rfl (.inr rfl) rfl rfl (Sd.st0 (α:=Unt) 5 a1_u rfl ty54.h rfl rfl rfl g10 rfl rfl (by decide) rfl (by rintro _ _ rfl; rfl)) (fun _=>ClE.sat _ _) (fun _ _ _=>trivial) (fun h=>nomatch h) fun _=>?_)
 refine RD.nil (k3 _ _ (kq [0,3] ?_))
 refine au 4 ?_
 refine T.cP H rfl (fun hc13 H=>?_) (fun hc13 H=>?_)
 ·refine kq [0,3] ?_
  refine nz ?_
  refine dr mixed [0,0,0,1,0,1,0,1,4] ?_
  refine au 8 ?_
  obtain ⟨x14,hx14,H⟩:=bindE H
  refine RD.solid rfl (.inr rfl) rfl rfl (Sd.callF0 7 ent117 rfl rfl (fun w s=>cells_Put_walk gc8 a0_s.cs a1_u.id a1_u.pos  hx14 w s)) (fun _=>ClE.sat _ _) (fun _ _ _=>trivial) (fun h=>nomatch h) fun _=>?_
  refine RD.nil ?_
  refine Cont.wk (fun w s=>(Sat.sP [1,2] [0,3,4,5,6,7] (Sat.cellB 0 (Sat.relen (q:=(some gg11,cc12)) (m:=a0_s.w.us.length) 5 s rfl) rfl (congrArg (fun z=>[.int .i64 a0_s.w.tick,.int .i64 a0_s.w.players,.int .i64 a0_s.w.nextid,.int .i64 a0_s.w.g.w,.int .i64 a0_s.w.g.h,rowV qt2 a0_s.w.g.tiles.length,rowV qb3 a0_s.w.bs.length,rowV (some gg11,cc12) z,va5,vb6,vc7,.pointer (some ⟨gc8,0,none⟩)]) (s.row_fits (q:=(some gg11,cc12)) (m:=a0_s.w.us.length) (k:=5) rfl).1)) (Std_shut (x:=(⟨(⟨a0_s.w.tick,a0_s.w.players,a0_s.w.nextid,a0_s.w.g,a0_s.w.bs,(si a0_s.w.us x9.1 a1_u)⟩:Wld),a0_s.op,x14⟩:Std)) ⟨qt2,qb3,(some gg11,cc12),va5,vb6,vc7,gc8⟩))) ?_
  obtain rfl:=sj H
  refine id ?_
  repeat with_reducible refine Cont.inB ?_
  refine Cont.end0 rfl fun w' s=>?_
  exact ⟨rfl,s.pc [0,1]⟩
 refine kq [0,3] ?_
 exact nomatch H
end Go.Proofs.YtmngdgclldkcfaaGreat
set_option linter.unusedVariables false
set_option linter.unusedSimpArgs false
set_option maxRecDepth 20000
set_option maxHeartbeats 4000000
namespace Go.Proofs.YtmngdgclldkcfaaGreat
open Go.Vg
open Enc (R)
theorem ent116:Ent Tryz.prog 116:=en Tryz.func116
theorem st164:stTy Tryz.prog 164 = some ([.int .i64 0,.int .i64 0,.int .i64 0,.int .i64 0,.int .i64 0,.slice none 0 0,.slice none 0 0,.slice none 0 0,.slice none 0 0,.slice none 0 0,.slice none 0 0,.pointer none],[(0,8),(8,3),(11,1)]):=by kernel_rfl
def openL:Nat→List Unt→Cls→Option Cls
  | 0,_,o=>some o
  | n + 1,l,o=>match l with
    | []=>some o
    | u :: l=>if u.inn = 0 then Option.bind (cells_Put o u.id u.pos) fun o=>openL n l o else openL n l o
def army_Open (W:Wld):Option Std:=if (W.us.length:Int) < 1099511627776 then Option.bind (openL W.us.length W.us none) fun o=>some ⟨W,⟨none,none,none⟩,o⟩ else none
theorem openL_states:∀ {l:List Unt} {o r:Cls},openL l.length l o = some r→∃ st:Nat→Cls,st 0 = o∧st l.length = r∧∀ k,k < l.length→(if (gi l k).inn = 0 then cells_Put (st k) (gi l k).id (gi l k).pos = some (st (k + 1)) else st (k + 1) = st k)
 | [],o,r,h=>⟨fun _=>o,rfl,Option.some.inj h,fun k hk=>absurd hk (Nat.not_lt_zero _)⟩
 | u :: l,o,r,h=>by
  have h2:∃ p,(if u.inn = 0 then cells_Put o u.id u.pos = some p else p = o)∧openL l.length l p = some r:=by
   by_cases hc:u.inn = 0
   ·simp only [List.length_cons,openL] at h
    rw [if_pos hc] at h
    obtain ⟨p,hp,h⟩:=bindE h
    exact ⟨p,by rw [if_pos hc]; exact hp,h⟩
   ·simp only [List.length_cons,openL] at h
    rw [if_neg hc] at h
    exact ⟨o,by rw [if_neg hc],h⟩
  obtain ⟨p,hp,h⟩:=h2
  obtain ⟨st,e0,en,es⟩:=openL_states h
  refine ⟨fun k=>match k with | 0=>o | k + 1=>st k,rfl,en,fun k hk=>?_⟩
  cases k with
  | zero=>show (if u.inn = 0 then cells_Put o u.id u.pos = some (st 0) else st 0 = o); rw [e0]; exact hp
  | succ k =>
   have h5:=es k (by simpa using hk)
   show (if (gi (u :: l) ((k + 1:Nat):Int)).inn = 0 then cells_Put (st k) (gi (u :: l) ((k + 1:Nat):Int)).id (gi (u :: l) ((k + 1:Nat):Int)).pos = some (st (k + 1)) else st (k + 1) = st k)
   rw [show gi (u :: l) ((k + 1:Nat):Int) = gi l k by simp [gi]]
   exact h5
theorem army_Open_walk {w0:World} {F:Ch} (W:Wld) {qt qb qu:Option Nat × Nat} {r:Std} (H:army_Open W = some r) (w:World) (s:Sat w0 [row nilH 5 (rowV qt W.g.tiles.length) W.g.tiles,row nilH 135 (rowV qb W.bs.length) W.bs,row nilH 54 (rowV qu W.us.length) W.us,F] w):Calls Tryz.prog 71 #[.agg #[.int .i64 W.tick,.int .i64 W.players,.int .i64 W.nextid,.int .i64 W.g.w,.int .i64 W.g.h,rowV qt W.g.tiles.length,rowV qb W.bs.length,rowV qu W.us.length]] w fun e w'=>∃ g:Nat,e = .returned (.pointer (some ⟨g,0,none⟩))∧Sat w0 ([Std_ch g r] ++ [F]) w':=by
 refine te Tryz.func71 s ?_
 unfold army_Open at H
 obtain ⟨hn,H⟩:=gdE H
 obtain ⟨o,ho,H⟩:=bindE H
 obtain rfl:=sj H
 obtain ⟨st,e0,en,es⟩:=openL_states ho
 refine T.seq fun _ k1=>T.region (RS.solid (Sd.box (cs:=[_,_,_,_,_,_,_,_]) rfl rfl) rfl rfl fun b1=>rA rfl (RS.nil (k1 _ _ ?_)))
 refine T.seq fun _ k2=>dr mixed [1,3,0,3,0] ?_
 refine dq rfl (Qt.ldBA (us:=[_,_,_,_,_,_,_,_]) 4 ty52.h rfl rfl rfl rfl) (RD.solid rfl (.inl rfl) rfl rfl (Sd.callN ent116 rfl (fun w s=>cells_New_walk w rfl)) (fun _=>ClE.sat _ _) (fun _ _ _=>trivial) (fun _ _ _ s=>s.drop1) fun g7=>?_)
 refine dp rfl (Pu.build (cells:=[_,_,_,_,_,_,_,_,_,_,_,_]) st164 rfl rfl) (RD.solid rfl (.inl rfl) rfl rfl (Sd.box (cs:=[_,_,_,_,_,_,_,_,_,_,_,_]) rfl rfl) (fun _=>ClE.sat _ _) (fun _ _ _=>trivial) (fun _ _ _ s=>s.drop1) fun b9=>?_)
 refine dp rfl (Pu.assign rfl) (RD.nil (k2 _ _ (kq [1,3] ?_)))
 refine T.seq fun _ k3=>au 5 ?_
 refine T.block ?_
 refine T.loopK (σ:=Nat) [(3,_),(11,_),(12,_)] (fun i=>[(13,.int .i64 (i:Nat))]) (fun i=>Sat w0 [row nilH 5 (rowV qt W.g.tiles.length) W.g.tiles,row nilH 135 (rowV qb W.bs.length) W.bs,row nilH 54 (rowV qu W.us.length) W.us,F,blk b1 [.int .i64 W.tick,.int .i64 W.players,.int .i64 W.nextid,.int .i64 W.g.w,.int .i64 W.g.h,rowV qt W.g.tiles.length,rowV qb W.bs.length,rowV qu W.us.length] 52,Cells_ch g7 (st i),blk b9 [.int .i64 W.tick,.int .i64 W.players,.int .i64 W.nextid,.int .i64 W.g.w,.int .i64 W.g.h,rowV qt W.g.tiles.length,rowV qb W.bs.length,rowV qu W.us.length,.slice none 0 0,.slice none 0 0,.slice none 0 0,.pointer (some ⟨g7,0,none⟩)] 164]) (fun i=>i ≤ W.us.length) (fun i=>W.us.length - i) 0 (Nat.zero_le _) sb sb (fun w s=>by rw [e0]; exact s) ?_
 intro i hI K4_ hL1
 refine kq [13,3,11,12] ?_
 refine au 2 ?_
 refine T.seq fun _ k6=>?_
 refine T.condP rfl (fun hc14=>?_) (fun hc14=>?_)
 ·have hs:=es i (by omega)
  refine T.skip (k6 _ _ ?_)
  refine T.seq fun _ k7=>T.block (T.seq fun _ k8=>T.region ?_)
  refine RS.know (p:=∃ g cap,qu = (some g,cap)) (fun w s=>s.row_some (k:=2) rfl (by first | omega | (simp only [len_si,List.length_append,List.length_replicate,List.length_cons,List.length_nil,List.length_map,List.length_take] at *; omega))) ?_
  rintro ⟨g2_qu,cap2_qu,rfl⟩
  refine rp (Pu.indexSl sl50.h rfl rfl (by first | omega | (simp only [len_si,List.length_append,List.length_replicate,List.length_cons,List.length_nil,List.length_map,List.length_take] at *; omega))) (rq (Qt.ldW (α:=Unt) (cs:=[_,_,_,_,_,_,_,_,_,_]) (Rd.ofRowN 2 rfl) ty54.h rfl rfl (by first | omega | (simp only [len_si,List.length_append,List.length_replicate,List.length_cons,List.length_nil,List.length_map,List.length_take] at *; omega)) rfl (by rintro _ _ rfl; rfl)) (RS.solid (Sd.alloc zr54 rfl) rfl rfl fun b5=>RS.solid (Sd.stB (cs':=[_,_,_,_,_,_,_,_,_,_]) 7 ty54.h rfl rfl rfl rfl rfl rfl rfl rfl) rfl rfl fun _=>RS.nil (k8 _ _ (kq [3,5,11,12,13] ?_))))
  refine au 4 ?_
  refine T.condP rfl (fun hc19=>?_) (fun hc19=>?_)
  ·rw [if_pos hc19] at hs
   refine kq [3,5,11,12,13] ?_
   refine dr mixed [0,0,0,1,0,1,0,1,4] ?_
   refine au 8 ?_
   refine RD.solid rfl (.inr rfl) rfl rfl (Sd.callF0 5 ent117 rfl rfl (fun w s=>cells_Put_walk g7 (st i) _ (gi W.us (i:Nat)).pos hs w s)) (fun _=>ClE.sat _ _) (fun _ _ _=>trivial) (fun h=>nomatch h) fun _=>?_
   refine RD.nil (k7 _ _ (kq [3,11,12,13] ?_))
   refine T.region (rp (Pu.addS rfl rfl (by omega)) (rM rfl (RS.nil (hL1 _ _ (i + 1) (by omega) (by omega) ⟨congrArg (fun z=>some (Value.int .i64 z)) (by omega),rfl,rfl,rfl,trivial⟩ (fun w s=>s.pc [0,1,2,3,4,5,6])))))
  rw [if_neg hc19] at hs
  refine T.skip (k7 _ _ (kq [3,11,12,13] ?_))
  refine T.region (rp (Pu.addS rfl rfl (by omega)) (rM rfl (RS.nil (hL1 _ _ (i + 1) (by omega) (by omega) ⟨congrArg (fun z=>some (Value.int .i64 z)) (by omega),rfl,rfl,rfl,trivial⟩ (fun w s=>by rw [hs]; exact s.pc [0,1,2,3,4,5,6])))))
 obtain rfl:i = W.us.length:=by omega
 refine T.exitTo (by with_reducible (repeat (first | exact ExTo.here | exact ExTo.hereN | exact ExTo.deep (by repeat (first | exact NmTo.seq | apply NmTo.blk)) | apply ExTo.seq | refine ExTo.past (by decide) ?_))) (k3 _ _ (kq [3] ?_))
 refine au 3 ?_
 refine T.retTo (by with_reducible ((repeat (first | apply RetTo.seq | apply RetTo.blk)); exact RetTo.refl _)) (Cont.ret1 rfl rfl fun w' s=>?_)
 exact ⟨b9,rfl,Std_shut (x:=⟨W,⟨none,none,none⟩,o⟩) (qt,qb,qu,.slice none 0 0,.slice none 0 0,.slice none 0 0,g7) ((s.opnNil (e:=4)).pick [3,6,0,1,2,7,5] (by decide) (by rw [en]; rfl))⟩
end Go.Proofs.YtmngdgclldkcfaaGreat
set_option linter.unusedVariables false
set_option linter.unusedSimpArgs false
set_option maxRecDepth 20000
set_option maxHeartbeats 4000000
namespace Go.Proofs.YtmngdgclldkcfaaGreat
open Go.Vg
open Enc (R)
theorem fields_Ways_walk {w0:World} {F:Ch} (g0:Nat) (x:Fld) (g:Grd) (l:List Bld) (cls size goal:Int) {v0 v1:Value} (h0:Rd (Sat w0 [F]) g.tiles [v0]) (h1:Rd (Sat w0 [F]) l [v1]) {r:List Int × Fld} (H:fields_Ways x g l cls size goal = some r) (w:World) (s:Sat w0 [Fld_ch g0 x,F] w):Calls Tryz.prog 354 #[.pointer (some ⟨g0,0,none⟩),.agg #[.int .i64 g.w,.int .i64 g.h,v0],v1,.int .i64 cls,.int .i64 size,.int .i64 goal] w fun e w'=>∃ z:{z:FldIn r.2 × Value // R z.1.hA r.1 [z.2]},e = .returned z.1.2∧Sat w0 ([blk g0 [.pointer (some ⟨z.1.1.gc,0,none⟩),.int .i64 r.2.made,.bool r.2.has,.int .i64 r.2.g.w,.int .i64 r.2.g.h,z.1.1.tv,z.1.1.lv,.map (some z.1.1.gn),.map (some z.1.1.gw),.int .i64 r.2.count] 147,Cach_ch z.1.1.gc r.2.c,mapL z.1.1.gn (raw z.1.1.N),mapL z.1.1.gw (raw z.1.1.W),fz z.1.1.hA] ++ [F]) w':=by
 unfold fields_Ways at H
 obtain ⟨⟨n,x2⟩,H1,H⟩:=bindE H
 obtain ⟨g3,H⟩:=gdE H
 obtain ⟨g4,H⟩:=gdE H
 obtain ⟨g5,H⟩:=gdE H
 obtain ⟨⟨kz,th,c2⟩,H2,H⟩:=bindE H
 cases th with
 | true =>
  have H:=ifT rfl H
  obtain ⟨d,H3,H⟩:=bindE H
  obtain rfl:=sj H
  exact ways_there g0 x g l cls size goal h0 h1 H1 g3 g4 g5 H2 H3 w s
 | false =>
  have H:=ifB rfl H
  obtain ⟨g6,H⟩:=gdE H
  obtain ⟨g7,H⟩:=gdE H
  obtain ⟨c3,H3,H⟩:=bindE H
  obtain ⟨d,H4,H⟩:=bindE H
  obtain ⟨H5,H⟩:=gdE H
  obtain ⟨⟨c4,W4⟩,H6,H⟩:=bindE H
  obtain ⟨H7,H⟩:=gdE H
  obtain rfl:=sj H
  exact ways_new g0 x g l cls size goal h0 h1 H1 g3 g4 g5 H2 g6 g7 H3 H4 H5 H6 H7 w s
def FldO_ch (g:Nat) (x:Fld) (hA:Hp):Ch:=exch fun q:{q:FldIn x // q.hA = hA}=>stars (blk g [.pointer (some ⟨q.1.gc,0,none⟩),.int .i64 x.made,.bool x.has,.int .i64 x.g.w,.int .i64 x.g.h,q.1.tv,q.1.lv,.map (some q.1.gn),.map (some q.1.gw),.int .i64 x.count] 147 :: [Cach_ch q.1.gc x.c,mapL q.1.gn (raw q.1.N),mapL q.1.gw (raw q.1.W)])
theorem stars_snoc:∀ {L:List Ch} {B:Ch} {p q r:Hp},stars L p→B q→(∀ b,p b = none ∨ q b = none)→p.le r→q.le r→stars (L ++ [B]) r
 | [],B,p,q,r,_,hB,hd,hp,hq=>⟨q,nilH,hB,trivial,fun b=>.inr rfl,hq,nilH_le _⟩
 | A :: L,B,p,q,r,⟨u,v,hu,hv,hd2,lu,lv⟩,hB,hd,hp,hq=>by
  have dv:∀ b,v b = none ∨ q b = none:=fun b=>by
   rcases hd b with h | h
   ·left
    cases e:v b with
    | none=>rfl
    | some o=>rw [lv b o e] at h; cases h
   ·exact .inr h
  have du:∀ b,u b = none ∨ q b = none:=fun b=>by
   rcases hd b with h | h
   ·left
    cases e:u b with
    | none=>rfl
    | some o=>rw [lu b o e] at h; cases h
   ·exact .inr h
  refine ⟨u,v.over q,hu,stars_snoc hv hB dv (Hp.le_over _ _) (fun b o e=>?_),fun b=>?_,Hp.le_trans lu hp,Hp.over_le (Hp.le_trans lv hp) hq⟩
  ·have:v b = none:=(dv b).resolve_right (by rw [e]; simp)
   unfold Hp.over; rw [this]; exact e
  ·rcases hd2 b with h | h
   ·exact .inl h
   ·rcases du b with h2 | h2
    ·exact .inl h2
    ·right; unfold Hp.over; rw [h]; exact h2
theorem FldO_shut {w0 w:World} {R:List Ch} {g:Nat} {x:Fld} (hA:Hp) (h:Sat w0 (R ++ [FldO_ch g x hA,fz hA]) w):Sat w0 (Fld_ch g x :: R) w:=by
 have h1:Sat w0 ((R ++ [FldO_ch g x hA]) ++ [fz hA]) w:=by rw [List.append_assoc]; exact h
 have h2:Sat w0 ((fz hA :: R) ++ [FldO_ch g x hA]) w:=h1.rotB
 exact h2.rotB.merge _ fun p q r ⟨⟨z,hz⟩,hp⟩ hq l1 l2 hd=>by
  subst hz
  exact ⟨z,stars_snoc hp hq hd l1 l2⟩
theorem FldO_make {w0 w:World} {F:Ch} {g:Nat} {x:Fld} (q:FldIn x) (h:Sat w0 ([blk g [.pointer (some ⟨q.gc,0,none⟩),.int .i64 x.made,.bool x.has,.int .i64 x.g.w,.int .i64 x.g.h,q.tv,q.lv,.map (some q.gn),.map (some q.gw),.int .i64 x.count] 147,Cach_ch q.gc x.c,mapL q.gn (raw q.N),mapL q.gw (raw q.W),fz q.hA] ++ [F]) w):Sat w0 ([FldO_ch g x q.hA,F] ++ [fz q.hA]) w :=
 Sat.toEx (C:=fun z:{z:FldIn x // z.hA = q.hA}=>stars (blk g [.pointer (some ⟨z.1.gc,0,none⟩),.int .i64 x.made,.bool x.has,.int .i64 x.g.w,.int .i64 x.g.h,z.1.tv,z.1.lv,.map (some z.1.gn),.map (some z.1.gw),.int .i64 x.count] 147 :: [Cach_ch z.1.gc x.c,mapL z.1.gn (raw z.1.N),mapL z.1.gw (raw z.1.W)])) ⟨q,rfl⟩ (Sat.toStars (blk g [.pointer (some ⟨q.gc,0,none⟩),.int .i64 x.made,.bool x.has,.int .i64 x.g.w,.int .i64 x.g.h,q.tv,q.lv,.map (some q.gn),.map (some q.gw),.int .i64 x.count] 147 :: [Cach_ch q.gc x.c,mapL q.gn (raw q.N),mapL q.gw (raw q.W)]) (G:=[F,fz q.hA]) (h.pick [5,4,0,1,2,3] (by decide) rfl))
theorem fields_NetO {w0:World} {F:Ch} (g0:Nat) (x:Fld) (g:Grd) (l:List Bld) (cls size:Int) {v0 v1:Value} (h0:Rd (Sat w0 [F]) g.tiles [v0]) (h1:Rd (Sat w0 [F]) l [v1]) {r:Net × Fld} (H:fields_Net x g l cls size = some r) (w:World) (s:Sat w0 [Fld_ch g0 x,F] w):Calls Tryz.prog 40 #[.pointer (some ⟨g0,0,none⟩),.agg #[.int .i64 g.w,.int .i64 g.h,v0],v1,.int .i64 cls,.int .i64 size] w fun e w'=>∃ z:{z:Hp × Nat // NetB z.1 z.2 r.1},e = .returned (.pointer (some ⟨z.1.2,0,none⟩))∧Sat w0 ([FldO_ch g0 r.2 z.1.1,F] ++ [fz z.1.1]) w' :=
 (fields_Net_walk g0 x g l cls size h0 h1 H w s).mono fun e w' ⟨⟨⟨q,nb⟩,hn⟩,he,s⟩=>⟨⟨(q.hA,nb),hn⟩,he,FldO_make q s⟩
theorem fields_WaysO {w0:World} {F:Ch} (g0:Nat) (x:Fld) (g:Grd) (l:List Bld) (cls size goal:Int) {v0 v1:Value} (h0:Rd (Sat w0 [F]) g.tiles [v0]) (h1:Rd (Sat w0 [F]) l [v1]) {r:List Int × Fld} (H:fields_Ways x g l cls size goal = some r) (w:World) (s:Sat w0 [Fld_ch g0 x,F] w):Calls Tryz.prog 354 #[.pointer (some ⟨g0,0,none⟩),.agg #[.int .i64 g.w,.int .i64 g.h,v0],v1,.int .i64 cls,.int .i64 size,.int .i64 goal] w fun e w'=>∃ z:{z:Hp × Value // R z.1 r.1 [z.2]},e = .returned z.1.2∧Sat w0 ([FldO_ch g0 r.2 z.1.1,F] ++ [fz z.1.1]) w' :=
 (fields_Ways_walk g0 x g l cls size goal h0 h1 H w s).mono fun e w' ⟨⟨⟨q,v⟩,hn⟩,he,s⟩=>⟨⟨(q.hA,v),hn⟩,he,FldO_make q s⟩
end Go.Proofs.YtmngdgclldkcfaaGreat
set_option linter.unusedVariables false
set_option linter.unusedSimpArgs false
set_option linter.unusedSectionVars false
namespace Go.Vg
open Go
open Enc (R)
def rqa (L:List (Int × RowAt)) (i:Int):Option Nat × Nat:=((kget L i).getD ((none,0),[])).1
def Mpr_ch (e g:Nat) (x:List (Int × List Int)):Ch:=exch fun L:{L:List (Int × RowAt) // rwx L = x}=>star (mapL g (rwv L.1)) (stars (rws e L.1))
def MprH (e g:Nat) (L:List (Int × RowAt)) (i:Int):Ch:=star (mapL g (rwv L)) (stars (rws e (vdel L i)))
section
variable {w0 w:World} {G:List Ch} {e g:Nat} {x:List (Int × List Int)}
theorem rwv_some (L:List (Int × RowAt)) (i:Int):(kget (rwv L) i).isSome = (kget (rwx L) i).isSome:=by
 unfold rwv rwx; rw [kget_vmap,kget_vmap]; cases kget L i <;> rfl
theorem Sat.mprOpen (k:Nat) (hk:G[k]? = some (Mpr_ch e g x)) (s:Sat w0 G w):∃ L:{L:List (Int × RowAt) // rwx L = x},Sat w0 (G.set k (star (mapL g (rwv L.1)) (stars (rws e L.1)))) w:=s.exAt k hk
theorem Sat.mprShut {L:List (Int × RowAt)} (k:Nat) (hL:rwx L = x) (hk:G[k]? = some (star (mapL g (rwv L)) (stars (rws e L)))) (s:Sat w0 G w):Sat w0 (G.set k (Mpr_ch e g x)) w:=s.weaken k hk _ fun p hp=>⟨⟨L,hL⟩,hp⟩
theorem star_comm {A B:Ch} {h:Hp}:star A B h→star B A h:=fun ⟨p,q,a,b,d,l1,l2⟩=>⟨q,p,b,a,fun x=>(d x).symm,l2,l1⟩
theorem rws_pull {L:List (Int × RowAt)} {i:Int} {p:Hp} (h:star (mapL g (rwv L)) (stars (rws e L)) p):star (MprH e g L i) (rwc e ((kget L i).getD ((none,0),[]))) p:=by
 unfold MprH
 cases hk:kget L i with
 | none =>
  rw [(vdel_none hk).1]
  exact ⟨p,nilH,h,.inl ⟨rfl,rfl⟩,fun b=>.inr rfl,Hp.le_refl _,nilH_le _⟩
 | some z =>
  obtain ⟨A,B,h1,h2,_⟩:=vdel_some hk
  rw [h2]
  have h3:star (mapL g (rwv L)) (star (rwc e z) (stars (rws e (A ++ B)))) p:=star_monoR (fun q hq=>by
   rw [h1] at hq
   have hq':stars (rws e A ++ rwc e z :: rws e B) q:=by simpa [rws] using hq
   have:=stars_out hq'
   simpa [rws] using this) h
  exact star_comm (star_swap h3)
theorem rws_push {L:List (Int × RowAt)} {i:Int} {p:Hp} (h:star (MprH e g L i) (rwc e ((kget L i).getD ((none,0),[]))) p):star (mapL g (rwv L)) (stars (rws e L)) p:=by
 unfold MprH at h
 have h2:=star_swap (star_comm h)
 cases hk:kget L i with
 | none =>
  rw [hk,(vdel_none hk).1] at h2
  exact star_monoR (fun q ⟨a,b,_,hb,_,_,l⟩=>stars_mono l hb) h2
 | some z =>
  obtain ⟨A,B,h1,h3,_⟩:=vdel_some hk
  rw [hk,h3] at h2
  exact star_monoR (fun q hq=>by
   have hq':star (rwc e z) (stars (rws e A ++ rws e B)) q:=by simpa [rws] using hq
   have h5:stars (rws e A ++ rwc e z :: rws e B) q:=stars_in hq'
   rw [h1]
   simpa [rws] using h5) h2
theorem rwc_get {L:List (Int × RowAt)} {i:Int} {q:Option Nat × Nat} (hL:rwx L = x) (hq:rqa L i = q):rwc e ((kget L i).getD ((none,0),[])) = row nilH e (rowV q ((kget x i).getD []).length) ((kget x i).getD []):=by
 subst hL hq
 rw [rwx_get]; rfl
theorem Sat.mprPull (k:Nat) (i:Int) (hk:G[k]? = some (Mpr_ch e g x)) (s:Sat w0 G w):∃ z:{z:List (Int × RowAt) × (Option Nat × Nat) // rwx z.1 = x∧rqa z.1 i = z.2},Sat w0 (G.set k (MprH e g z.1.1 i) ++ [row nilH e (rowV z.1.2 ((kget x i).getD []).length) ((kget x i).getD [])]) w:=by
 have hkl:=(List.getElem?_eq_some_iff.1 hk).1
 obtain ⟨⟨L,hL⟩,s⟩:=s.mprOpen k hk
 have s1:=s.weaken k (by rw [List.getElem?_set_self hkl]) (star (MprH e g L i) (rwc e ((kget L i).getD ((none,0),[])))) fun p hp=>rws_pull hp
 have s2:=s1.splitAt k (by rw [List.getElem?_set_self (by simpa using hkl)])
 refine ⟨⟨(L,rqa L i),hL,rfl⟩,?_⟩
 rw [rwc_get hL rfl] at s2
 simpa using s2
theorem Sat.mprBack {L:List (Int × RowAt)} {i:Int} {q:Option Nat × Nat} (k kr:Nat) (hk:G[k]? = some (MprH e g L i)) (hkr:G[kr]? = some (row nilH e (rowV q ((kget x i).getD []).length) ((kget x i).getD []))) (hne:k ≠ kr) (hL:rwx L = x) (hq:rqa L i = q) (s:Sat w0 G w):Sat w0 ((G.set k (Mpr_ch e g x)).set kr dead) w :=
 s.merge2 k kr hk hkr hne _ fun p q' r a b c d e'=>⟨⟨L,hL⟩,rws_push (i:=i) (by rw [rwc_get hL hq]; exact ⟨p,q',a,b,c,d,e'⟩)⟩
end
section
variable {P:Program} {n:Nat} {fr:Fr} {dst:Option Tmp} {ty:TypeId} {pos:String} {aft:Array Edge} {gd:Option (Nat × Bool)} {w0:World} {G:List Ch} {e g:Nat} {x:List (Int × List Int)}
theorem Sd.makeMpr {t:TypeId}:Sd P n ⟨dst,.makeMap t none,ty,pos,aft,gd⟩ fr (Sat w0 G) (fun b:Nat=>.map (some b)) (fun b=>Sat w0 (G ++ [Mpr_ch e b []])) :=
 Sd.post Sd.makeMapL fun b w s=>by
  have s1:=s.weaken G.length (C:=mapL b []) (by simp) (Mpr_ch e b []) fun p (hp:mapL b [] p)=>⟨⟨[],rfl⟩,p,nilH,hp,trivial,fun b=>.inr rfl,Hp.le_refl _,nilH_le _⟩
  simpa using s1
theorem Qt.mprLook2 {L:List (Int × RowAt)} {X:Ch} (k:Nat) {t:TypeId} {x' y:Operand} {i:Int} {z:Value} (ht:mpZ P t = some z) (hx:ev fr x' = some (.map (some g))) (hy:ev fr y = some (.int .i64 i)) (hL:rwx L = x) (hk:G[k]? = some (star (mapL g (rwv L)) X)) :
  Qt P n ⟨dst,.lookup t x' y true,ty,pos,aft,gd⟩ fr (Sat w0 G) (.tuple #[(kget (rwv L) i).getD z,.bool (kget x i).isSome]):=by
 have hkl:=(List.getElem?_eq_some_iff.1 hk).1
 have h:=Qt.weak (Qt.lookL2 (dst:=dst) (ty:=ty) (pos:=pos) (aft:=aft) (g:=gd) (n:=n) (fr:=fr) (G:=G.set k (mapL g (rwv L)) ++ [X]) (w0:=w0) k ht hx hy (by rw [List.getElem?_append_left (by simpa using hkl),List.getElem?_set_self hkl])) fun (w:World) (s:Sat w0 G w)=>Sat.splitAt k hk s
 rw [rwv_some,hL] at h
 exact h
theorem Qt.mprLook1 {L:List (Int × RowAt)} {q:Option Nat × Nat} (k:Nat) {t:TypeId} {x' y:Operand} {i:Int} (ht:mpZ P t = some (.slice none 0 0)) (hx:ev fr x' = some (.map (some g))) (hy:ev fr y = some (.int .i64 i)) (hL:rwx L = x) (hq:rqa L i = q) (hk:G[k]? = some (MprH e g L i)) :
  Qt P n ⟨dst,.lookup t x' y false,ty,pos,aft,gd⟩ fr (Sat w0 G) (rowV q ((kget x i).getD []).length):=by
 have hkl:=(List.getElem?_eq_some_iff.1 hk).1
 have h:=Qt.weak (Qt.lookL1 (dst:=dst) (ty:=ty) (pos:=pos) (aft:=aft) (g:=gd) (n:=n) (fr:=fr) (G:=G.set k (mapL g (rwv L)) ++ [stars (rws e (vdel L i))]) (w0:=w0) k ht hx hy (by rw [List.getElem?_append_left (by simpa using hkl),List.getElem?_set_self hkl])) fun (w:World) (s:Sat w0 G w)=>Sat.splitAt k hk s
 rw [rwv_get] at h
 subst hL hq
 rw [rwx_get]
 exact h
theorem Sd.mprPut {q:Option Nat × Nat} {l:List Int} (k kr:Nat) {t:TypeId} {x' y u:Operand} {i:Int} (ht:mpZ P t = some (.slice none 0 0)) (hx:ev fr x' = some (.map (some g))) (hy:ev fr y = some (.int .i64 i)) (hu:ev fr u = some (rowV q l.length)) (hk:G[k]? = some (Mpr_ch e g x)) (hkr:G[kr]? = some (row nilH e (rowV q l.length) l)) (hne:k ≠ kr) (hn:(kget x i).isNone = true) :
  Sd P n ⟨none,.mapUpdate t x' y u,ty,pos,aft,gd⟩ fr (Sat w0 G) (fun _:Unit=>undef) (fun _=>Sat w0 ((G.set k (Mpr_ch e g (kput x i l))).set kr dead)):=fun a w kn s=>by
 have hkl:=(List.getElem?_eq_some_iff.1 hk).1
 have hrl:=(List.getElem?_eq_some_iff.1 hkr).1
 obtain ⟨⟨L,hL⟩,s⟩:=s.mprOpen k hk
 have hnL:kget L i = none:=by
  have h1:(kget (rwx L) i).isNone = true:=by rw [hL]; exact hn
  unfold rwx at h1; rw [kget_vmap] at h1
  cases h2:kget L i with
  | none=>rfl
  | some z=>rw [h2] at h1; cases h1
 have s1:=s.splitAt (A:=mapL g (rwv L)) (B:=stars (rws e L)) k (by rw [List.getElem?_set_self hkl])
 have h:=Sd.mapPut (P:=P) (n:=n) (fr:=fr) (ty:=ty) (pos:=pos) (aft:=aft) (g:=gd) (w0:=w0) (G:=(G.set k (star (mapL g (rwv L)) (stars (rws e L)))).set k (mapL g (rwv L)) ++ [stars (rws e L)]) (L:=rwv L) k ht hx hy hu (by rw [List.getElem?_append_left (by simpa using hkl),List.getElem?_set_self (by simpa using hkl)])
 refine Sd.post (S2:=fun _:Unit=>Sat w0 ((G.set k (Mpr_ch e g (kput x i l))).set kr dead)) h (fun _ w2 s2=>?_) a w kn s1
 rw [List.set_append_left _ _ (by simpa using hkl)] at s2
 simp only [List.set_set] at s2
 rw [rwv_put (q,l)] at s2
 have s3:=s2.merge2 kr G.length (A:=row nilH e (rowV q l.length) l) (B:=stars (rws e L)) (by rw [List.getElem?_append_left (by simpa using hrl),List.getElem?_set_ne hne]; exact hkr) (by simp) (by omega) (stars (rws e (kput L i (q,l)))) fun p q' r b1 b2 d l1 l2=>by
  rw [(vdel_none hnL).2]
  have h5:stars (rws e L ++ rwc e (q,l) :: []) r:=stars_in (by rw [List.append_nil]; exact ⟨p,q',b1,b2,d,l1,l2⟩)
  simpa [rws] using h5
 have s4:=s3.merge2 k kr (A:=mapL g (rwv (kput L i (q,l)))) (B:=stars (rws e (kput L i (q,l)))) (by
  rw [List.getElem?_set_ne (by omega),List.getElem?_set_ne (Ne.symm hne),List.getElem?_append_left (by simpa using hkl),List.getElem?_set_self hkl]) (by
  rw [List.getElem?_set_ne (by omega),List.getElem?_set_self (by simp; omega)]) hne (Mpr_ch e g (kput x i l)) fun p q' r b1 b2 d l1 l2=>⟨⟨kput L i (q,l),by rw [← rwx_put (q,l),hL]⟩,p,q',b1,b2,d,l1,l2⟩
 have s5:=s4.pick (G':=(G.set k (Mpr_ch e g (kput x i l))).set kr dead) (List.range G.length) List.nodup_range (by
  refine List.ext_getElem (by simp) fun j h1 h2=>?_
  simp at h1
  simp only [List.getElem_map,List.getElem_range]
  rw [List.getElem?_eq_getElem (by simp; omega)]
  congr 1
  simp only [List.getElem_set,List.getElem_append]
  split
  ·rfl
  ·split
   ·rfl
   ·rw [if_neg (by omega)]
    first | rfl | simp_all [List.getElem_set] | (split <;> simp_all))
 exact s5
end
end Go.Vg
