/-
  Walks of what the statements of the fields call.
-/
import Derived.Test.YtmngdgclldkcfaaGreatRows
import Derived.Test.YtmngdgclldkcfaaGreatJ6
import Derived.Test.YtmngdgclldkcfaaGreatJ7
import Derived.Test.YtmngdgclldkcfaaGreatJ11
import Derived.Test.YtmngdgclldkcfaaGreatJ5
set_option linter.unusedVariables false
set_option linter.unusedSimpArgs false
set_option maxRecDepth 20000
set_option maxHeartbeats 4000000
namespace Go.Proofs.YtmngdgclldkcfaaGreat
open Go.Vg
open Enc (R)
theorem queue_New_walk (w:World) {r:Option Que} (H:queue_New = some r):Calls Tryz.prog 370 #[] w fun e w'=>∃ g1:Nat,e = .returned (.pointer (optA g1 r))∧Sat w [optCh Que_ch g1 r] w':=by
 unfold queue_New at H
 refine te Tryz.func370 (Sat.start w) ?_
 refine au 2 ?_
 refine T.seq fun _ k2=>T.region (rp (Pu.build (cells:=[_]) st443 rfl rfl) (RS.solid (Sd.box (cs:=[_]) rfl rfl) rfl rfl fun b1=>?_))
 refine RS.weakS (fun w s=>(s.nilRow (α:=Itm) 445)) ?_
 refine rA rfl (RS.nil (k2 _ _ ?_))
 obtain rfl:=sj H
 refine T.rt (Cont.ret1 rfl rfl fun w' s=>?_)
 exact ⟨b1,rfl,Que_shut (x:=(⟨([]:List Itm)⟩:Que)) (none,0) (s.pc [0,1])⟩
theorem queue_Queue_Push_walk {w0:World} {F:Ch} (g0:Nat) (a0_q:Que) (a1_key:Int) (a2_val:Int) {r:Que} (H:queue_Queue_Push a0_q a1_key a2_val = some r) (w:World) (s:Sat w0 [Que_ch g0 a0_q,F] w):Calls Tryz.prog 371 #[.pointer (some ⟨g0,0,none⟩),.int .i64 a1_key,.int .i64 a2_val] w fun e w'=>e = .returned (.tuple #[])∧Sat w0 [Que_ch g0 r,F] w':=by
 unfold queue_Queue_Push at H
 refine te Tryz.func371 s ?_
 refine T.ex (fun w s=>Que_open 0 rfl s) ?_
 rintro q1
 refine nz ?_
 refine T.seq fun _ k1=>T.region (au 7 ?_)
 refine rp (Pu.build (cells:=[_,_]) st445 rfl rfl) (RS.solid (Sd.litS (cs:=[_,_]) sl441.h zr445 rfl rfl rfl rfl rfl) rfl rfl fun b2=>?_)
 obtain ⟨g4,H⟩:=gdE H
 refine RS.solid (Sd.app1c (α:=Itm) 2 3 (⟨a1_key,a2_val⟩:Itm) rfl rfl (nilH_lt _) sl441.h zr445 rfl rfl rfl rfl g4 (by decide)) rfl rfl fun q3=>au 3 ?_
 refine RS.nil (k1 _ _ (kq [0] ?_))
 refine T.seq fun _ k2=>T.region (au 5 ?_)
 obtain ⟨g5,H⟩:=gdE H
 refine rp (Pu.subS rfl rfl g5) (rA rfl (RS.nil (k2 _ _ (kq [0,6] ?_))))
 refine T.joinE (σ:=Unit) (γ:=Unit) H Ex.go [] trivial (fun _ _=>[]) (fun _ _=>Sat w0 [blk g0 [rowV q3 ((a0_q.l ++ [(⟨a1_key,a2_val⟩:Itm)]).length)] 443,F,row nilH 445 (rowV q3 ((a0_q.l ++ [(⟨a1_key,a2_val⟩:Itm)]).length)) (a0_q.l ++ [(⟨a1_key,a2_val⟩:Itm)]),blk b2 [.int .i64 a1_key,.int .i64 a2_val] 445]) ?_ ?_
 ·rintro ⟨⟩ ⟨⟩ H
  try dsimp only [Ex.then] at H
  refine Cont.kq [] ?_
  obtain rfl:=sj H
  refine id (Cont.end0 rfl fun w' s=>?_)
  exact ⟨rfl,Que_shut (x:=(⟨(a0_q.l ++ [(⟨a1_key,a2_val⟩:Itm)])⟩:Que)) q3 (s.pc [1,0,2])⟩
 intro z6 hz6 HX6 hJ6
 refine T.block ?_
 refine T.loopA (γ:=Unit) hz6 [(0,_)] (fun v7 _=>[(6,.int .i64 v7)]) (fun v7 _=>Sat w0 [blk g0 [rowV q3 ((a0_q.l ++ [(⟨a1_key,a2_val⟩:Itm)]).length)] 443,F,row nilH 445 (rowV q3 ((a0_q.l ++ [(⟨a1_key,a2_val⟩:Itm)]).length)) (a0_q.l ++ [(⟨a1_key,a2_val⟩:Itm)]),blk b2 [.int .i64 a1_key,.int .i64 a2_val] 445]) () sb sb (fun w s=>s) ?_
 rintro v7 ⟨⟩ y8 H hd6 KL6 hL6
 try dsimp only [Ex.then] at H
 refine kq [6,0] ?_
 refine T.seq fun _ k3=>au 3 ?_
 refine T.cP H rfl (fun hc9 H=>?_) (fun hc9 H=>?_)
 ·refine T.skip (k3 _ _ ?_)
  refine T.block (T.seq fun _ k5=>?_)
  exact nomatch H
 obtain rfl:=hd6 _ H
 refine T.xt (hJ6 _ _ () () HX6 trivial trivial (fun w s=>s))
theorem queue_Queue_Pop_walk {w0:World} {F:Ch} (g0:Nat) (a0_q:Que) {r:Int × Int × Bool × Que} (H:queue_Queue_Pop a0_q = some r) (w:World) (s:Sat w0 [Que_ch g0 a0_q,F] w):Calls Tryz.prog 372 #[.pointer (some ⟨g0,0,none⟩)] w fun e w'=>e = .returned (.tuple #[.int .i64 r.1,.int .i64 r.2.1,.bool r.2.2.1])∧Sat w0 [Que_ch g0 r.2.2.2,F] w':=by
 unfold queue_Queue_Pop at H
 refine te Tryz.func372 s ?_
 refine T.ex (fun w s=>Que_open 0 rfl s) ?_
 rintro q1
 refine nz ?_
 refine T.seq fun _ k1=>T.region (au 3 ?_)
 refine RS.nil (k1 _ _ (kq [0] ?_))
 refine T.seq fun _ k2=>T.region (au 5 ?_)
 obtain ⟨g2,H⟩:=gdE H
 refine rp (Pu.subS rfl rfl g2) (rA rfl (RS.nil (k2 _ _ (kq [0,5] ?_))))
 refine T.seq fun _ k3=>au 3 ?_
 refine T.cP H rfl (fun hc3 H=>?_) (fun hc3 H=>?_)
 ·refine kq [] ?_
  refine au 4 ?_
  obtain rfl:=sj H
  refine T.rt (Cont.ret3 rfl rfl rfl rfl fun w' s=>?_)
  exact ⟨rfl,Que_shut (x:=a0_q) q1 (s.pc [1,0,2])⟩
 refine T.skip (k3 _ _ ?_)
 refine T.seq fun _ k6=>T.region (au 4 ?_)
 obtain ⟨g4,H⟩:=gdE H
 refine RS.know (p:=∃ g cap,q1 = (some g,cap)) (fun w s=>(s.row_some (k:=2) rfl (pos_of g4))) ?_
 rintro ⟨gg5,cc6,rfl⟩
 refine rp (Pu.indexSl sl441.h rfl rfl g4) (rq (Qt.ldW (α:=Itm) (cs:=[_,_]) (Rd.ofRowN 2 rfl) ty445.h rfl rfl g4 rfl (by rintro _ _ rfl; rfl)) (RS.solid (Sd.alloc zr445 rfl) rfl rfl fun b7=>RS.solid (Sd.stB (cs':=[_,_]) 3 ty445.h rfl rfl rfl rfl rfl rfl rfl rfl) rfl rfl fun _=>RS.nil (k6 _ _ (kq [0,5,6] ?_))))
 refine T.seq fun _ k7=>dr mixed [0,0,0,1,0,0,0,1,0,0,1,0,4] ?_
 refine au 9 ?_
 obtain ⟨g8,H⟩:=gdE H
 refine dp rfl (Pu.indexSl sl441.h rfl rfl g8) (dq rfl (Qt.ldW (α:=Itm) (cs:=[_,_]) (Rd.ofRowN 2 rfl) ty445.h rfl rfl g8 rfl (by rintro _ _ rfl; rfl)) ?_)
 obtain ⟨g9,H⟩:=gdE H
 refine dp rfl (Pu.indexSl sl441.h rfl rfl g9) (RD.solid rfl (.inr rfl) rfl rfl (Sd.st0 (α:=Itm) 2 (gi a0_q.l ((a0_q.l.length:Int) - 1)) rfl ty445.h rfl rfl rfl g9 rfl rfl (by decide) rfl (by rintro _ _ rfl; rfl)) (fun _=>ClE.sat _ _) (fun _ _ _=>trivial) (fun h=>nomatch h) fun _=>?_)
 refine RD.nil (k7 _ _ (kq [0,5,6] ?_))
 refine T.seq fun _ k8=>T.region (au 6 ?_)
 obtain ⟨g10,H⟩:=gdE H
 refine RS.know (fun w s=>(s.row_fits (q:=(some gg5,cc6)) (m:=a0_q.l.length) (k:=2) rfl)) fun hf11=>?_
 refine rp (Pu.sliceH sl441.h rfl rfl (le_cap g10 hf11.2.1)) ?_
 refine RS.weakS (fun w s=>s.cutRow (q:=(some gg5,cc6)) (m:=a0_q.l.length) 2 (((a0_q.l.length:Int) - 1).toNat) rfl (by have h1:=g10; have h2:=hf11.1; omega)) ?_
 refine au 3 ?_
 refine RS.nil (k8 _ _ (kq [0,5,6] ?_))
 refine T.seq fun _ k9=>au 2 ?_
 refine T.joinE (σ:=Unit) (γ:=Unit) H (fun s=>s) [(6,_)] sb (fun _ _=>[]) (fun _ _=>Sat w0 [blk g0 [rowV (some gg5,cc6) (((a0_q.l.length:Int) - 1).toNat)] 443,F,row nilH 445 (rowV (some gg5,cc6) (((a0_q.l.length:Int) - 1).toNat)) ((si a0_q.l (0:Int) (gi a0_q.l ((a0_q.l.length:Int) - 1))).take ((a0_q.l.length:Int) - 1).toNat),blk b7 [.int .i64 ((gi a0_q.l (0:Int)).key),.int .i64 ((gi a0_q.l (0:Int)).val)] 445]) ?_ ?_
 ·rintro ⟨⟩ ⟨⟩ H
  try dsimp only [Ex.then] at H
  refine Cont.kq [6] ?_
  refine id (k9 _ _ ?_)
  refine T.seq fun _ k11=>dr mixed [0,1,0,1,0,0,0] ?_
  refine au 7 ?_
  refine RD.nil (k11 _ _ (kq [2,3,4] ?_))
  obtain rfl:=sj H
  refine T.rt (Cont.ret3 rfl rfl rfl rfl fun w' s=>?_)
  exact ⟨rfl,Que_shut (x:=(⟨((si a0_q.l (0:Int) (gi a0_q.l ((a0_q.l.length:Int) - 1))).take ((a0_q.l.length:Int) - 1).toNat)⟩:Que)) (some gg5,cc6) ((Sat.cellB 0 (Sat.relen (q:=(some gg5,cc6)) (m:=((a0_q.l.length:Int) - 1).toNat) 2 s rfl) rfl (congrArg (fun z=>[rowV (some gg5,cc6) z]) (s.row_fits (q:=(some gg5,cc6)) (m:=((a0_q.l.length:Int) - 1).toNat) (k:=2) rfl).1)).pick [1,0,2] (by decide) rfl)⟩
 intro z12 hz12 HX12 hJ12
 refine T.block ?_
 refine T.loopA (γ:=Unit) hz12 [(0,_),(5,_),(6,_)] (fun v13 _=>[(7,.int .i64 v13)]) (fun v13 _=>Sat w0 [blk g0 [rowV (some gg5,cc6) (((a0_q.l.length:Int) - 1).toNat)] 443,F,row nilH 445 (rowV (some gg5,cc6) (((a0_q.l.length:Int) - 1).toNat)) ((si a0_q.l (0:Int) (gi a0_q.l ((a0_q.l.length:Int) - 1))).take ((a0_q.l.length:Int) - 1).toNat),blk b7 [.int .i64 ((gi a0_q.l (0:Int)).key),.int .i64 ((gi a0_q.l (0:Int)).val)] 445]) () sb sb (fun w s=>s) ?_
 rintro v13 ⟨⟩ y14 H hd12 KL12 hL12
 try dsimp only [Ex.then] at H
 refine kq [7,0,5,6] ?_
 refine T.block (T.seq fun _ k12=>T.region (rM rfl ?_))
 obtain ⟨g15,H⟩:=gdE H
 refine rp (Pu.mulS rfl rfl g15) ?_
 obtain ⟨g16,H⟩:=gdE H
 refine rp (Pu.addS rfl rfl g16) (rA rfl (RS.nil (k12 _ _ (kq [0,5,6,7,8] ?_))))
 refine T.seq fun _ k13=>au 4 ?_
 refine T.cP H rfl (fun hc17 H=>?_) (fun hc17 H=>?_)
 ·obtain rfl:=hd12 _ H
  refine T.xt (hJ12 _ _ () () HX12 sb trivial (fun w s=>s))
 refine T.skip (k13 _ _ (kq [0,5,6,7,8] ?_))
 refine T.seq fun _ k15=>T.seq fun _ k16=>?_
 exact nomatch H
theorem field_Fit_walk (a0_g:Grd) (a1_l:List Bld) (a2_class:Int) (a3_size:Int) (w:World) {v0 v1:Value} (h0:R (hpOf w) a0_g.tiles [v0]) (h1:R (hpOf w) a1_l [v1]) {r:List Bool} (H:field_Fit a0_g a1_l a2_class a3_size = some r):Calls Tryz.prog 136 #[.agg #[.int .i64 a0_g.w,.int .i64 a0_g.h,v0],v1,.int .i64 a2_class,.int .i64 a3_size] w fun e w'=>∃ q1:(Option Nat × Nat),e = .returned (rowV q1 r.length)∧Sat w [row nilH 4 (rowV q1 r.length) r] w':=by
 have hm0:=R_max h0
 obtain ⟨p0,c0,rfl⟩:=R_form h0
 have hm1:=R_max h1
 obtain ⟨p1,c1,rfl⟩:=R_form h1
 unfold field_Fit at H
 refine te Tryz.func136 (Sat.start w) ?_
 refine T.seq fun _ k1=>T.region (RS.solid (Sd.box (cs:=[_,_,_]) rfl rfl) rfl rfl fun b1=>rA rfl (RS.nil (k1 _ _ ?_)))
 refine T.seq fun _ k2=>T.region (au 3 ?_)
 obtain ⟨g3,H⟩:=gdE H
 refine RS.solid (Sd.make (α:=Bool) (B:=nilH) false sl41.h zr4 rfl (by decide) rfl rfl (by omega) (by omega) (by omega)) rfl rfl fun b2=>rA rfl (RS.nil (k2 _ _ (kq [1,2,3,4,9] ?_)))
 refine T.seq fun _ k3=>T.seq fun _ k4=>T.region (au 3 ?_)
 obtain ⟨x4,hx4,H⟩:=bindE H
 refine RS.solid (Sd.callN (vs:=[_,_,_]) ent206 rfl (fun w s=>clear_Room_walk a0_g a1_l a2_class w ((Rd.base h0) w s) ((Rd.base h1) w s) hx4)) rfl rfl fun q5=>au 2 ?_
 refine RS.nil (k4 _ _ (kq [3,9,19,20,21] ?_))
 refine T.joinE (σ:=List Bool) (γ:=Unit) H (fun s=>s) [(9,_)] sb (fun v7 _=>[]) (fun v7 _=>Sat w [blk b1 [.int .i64 a0_g.w,.int .i64 a0_g.h,.slice p0 a0_g.tiles.length c0] 24,row nilH 4 (rowV (some b2,(a0_g.tiles.length:Int).toNat) ((a0_g.tiles.length:Int).toNat)) v7,row nilH 3 (rowV q5 x4.length) x4]) ?_ ?_
 ·rintro v7 ⟨⟩ H
  try dsimp only [Ex.then] at H
  refine Cont.kq [9] ?_
  refine id (k3 _ _ ?_)
  refine au 3 ?_
  obtain rfl:=sj H
  refine T.rt (Cont.ret1 rfl rfl fun w' s=>?_)
  exact ⟨(some b2,(a0_g.tiles.length:Int).toNat),(by simp only [(s.row_fits (q:=(some b2,(a0_g.tiles.length:Int).toNat)) (m:=(a0_g.tiles.length:Int).toNat) (k:=1) rfl).1]; try rfl),(Sat.relen (q:=(some b2,(a0_g.tiles.length:Int).toNat)) (m:=(a0_g.tiles.length:Int).toNat) 1 s rfl).pick [1] (by decide) rfl⟩
 intro z6 hz6 HX6 hJ6
 refine T.block ?_
 refine T.loopA (γ:=Unit) hz6 [(3,_),(9,_),(19,_),(20,_)] (fun (v8,l9) _=>[(21,.int .i64 v8)]) (fun (v8,l9) _=>Sat w [blk b1 [.int .i64 a0_g.w,.int .i64 a0_g.h,.slice p0 a0_g.tiles.length c0] 24,row nilH 4 (rowV (some b2,(a0_g.tiles.length:Int).toNat) ((a0_g.tiles.length:Int).toNat)) l9,row nilH 3 (rowV q5 x4.length) x4]) () sb sb (fun w s=>s) ?_
 rintro ⟨v8,l9⟩ ⟨⟩ y10 H hd6 KL6 hL6
 try dsimp only [Ex.then] at H
 refine kq [21,3,9,19,20] ?_
 refine au 2 ?_
 refine T.seq fun _ k7=>?_
 refine T.cP H rfl (fun hc11 H=>?_) (fun hc11 H=>?_)
 ·refine T.skip (k7 _ _ ?_)
  refine T.seq fun _ k8=>T.block (T.seq fun _ k9=>T.region (rM rfl ?_))
  obtain ⟨g12,H⟩:=gdE H
  refine RS.know (p:=∃ g cap,q5 = (some g,cap)) (fun w s=>(s.row_some (k:=2) rfl (pos_of g12))) ?_
  rintro ⟨gg13,cc14,rfl⟩
  refine rp (Pu.indexSl sl35.h rfl rfl g12) (rq (Qt.ld0 (α:=Int) (Rd.ofRowN 2 rfl) ty3.h rfl rfl g12 (by rintro _ _ rfl; rfl)) (au 2 ?_))
  refine RS.nil (k9 _ _ (kq [3,9,10,11,19,20,21] ?_))
  refine T.region (au 5 ?_)
  obtain ⟨g15,H⟩:=gdE H
  refine RS.know (fun w s=>(s.row_fits (q:=(some b2,(a0_g.tiles.length:Int).toNat)) (m:=(a0_g.tiles.length:Int).toNat) (k:=1) rfl)) fun hf16=>?_
  refine rp (Pu.indexSl sl41.h rfl rfl g15) (RS.solid (Sd.st0 (α:=Bool) 1 (decide (a3_size < (gi x4 v8))) rfl ty4.h rfl rfl rfl (idx_of hf16.1 g15) rfl rfl (by decide) rfl (by rintro _ _ rfl; rfl)) rfl rfl fun _=>RS.nil (k8 _ _ (kq [3,9,19,20,21] ?_)))
  refine T.region ?_
  obtain ⟨g17,H⟩:=gdE H
  refine rp (Pu.addS rfl rfl g17) (rM rfl (RS.nil (hL6 _ _ ((v8 + 1),(si l9 v8 (decide (a3_size < (gi x4 v8))))) () H sb sb (fun w s=>s))))
 obtain rfl:=hd6 _ H
 refine T.xt (hJ6 _ _ l9 () HX6 sb trivial (fun w s=>s))
theorem field_Net_Step_walk (a0_n:Net) (a1_t:Int) (a2_near:List Int) (a3_way:Int) (a4_in:Int→Option Bool) (w:World) {v0 v1 v2:Value} {p0g:Nat} (hb0:blk p0g [.int .i64 a0_n.g.w,.int .i64 a0_n.g.h,v0,.int .i64 a0_n.cls,v1] 233 (hpOf w)) (h0:R (hpOf w) a0_n.g.tiles [v0]) (h1:R (hpOf w) a0_n.free [v1]) (h2:FnQ Tryz.prog w v2 (fun (y0:Int)=>[.int .i64 y0]) (fun (r:Bool)=>.bool r) a4_in) {r:Int} (H:field_Net_Step a0_n a1_t a2_near a3_way a4_in = some r):Calls Tryz.prog 367 #[.pointer (some ⟨p0g,0,none⟩),.int .i64 a1_t,.agg (nums a2_near).toArray,.int .i64 a3_way,v2] w fun e w'=>e = .returned (.int .i64 r)∧Ext w w':=by
 have hm0:=R_max h0
 obtain ⟨p0,c0,rfl⟩:=R_form h0
 have hm1:=R_max h1
 obtain ⟨p1,c1,rfl⟩:=R_form h1
 unfold field_Net_Step at H
 refine te Tryz.func367 (Sat.start w) ?_
 refine T.seq fun _ k1=>T.region (RS.solid (Sd.box (cs:=nums a2_near) rfl (by simp [Value.cells])) rfl rfl fun b1=>rA rfl (RS.nil (k1 _ _ ?_)))
 refine T.seq fun _ k2=>T.region (rM rfl ?_)
 obtain ⟨g2,H⟩:=gdE H
 refine rp (Pu.indexAr ar343 rfl rfl (by have:=g2; omega)) (rq (Qt.ldAr 0 ty3.h rfl rfl rfl (by have:=g2; omega)) (rA rfl (RS.nil (k2 _ _ (kq [0,1,3,4,7,11] ?_)))))
 refine T.seq fun _ k3=>T.seq fun _ k4=>T.region (au 3 ?_)
 obtain ⟨g5,H⟩:=gdE H
 refine RS.joinV 9 29 (.bool (decide (((gi a2_near a3_way) < 0) ∨ ((!(gi a0_n.free (gi a2_near a3_way))) = true)))) [(0,_),(1,_),(3,_),(4,_),(7,_),(11,_)] sb ?_ ?_
 ·refine rM rfl ?_
  refine RS.joinB H 5 35 (fun b8=>.bool b8) [(0,_),(1,_),(3,_),(4,_),(7,_),(11,_)] sb ?_ ?_
  ·intro b8 H
   refine RS.nil (k4 _ _ ?_)
   refine T.cB H rfl (fun hc9 H=>?_) (fun hc9 H=>?_)
   ·refine kq [] ?_
    refine au 2 ?_
    obtain rfl:=sj H
    refine T.rt (Cont.ret1 rfl rfl fun w' s=>?_)
    exact ⟨rfl,s.ext⟩
   refine T.skip (k3 _ _ ?_)
   refine T.seq fun _ k6=>dr mixed [0,0,0,1,0,0,0,0,1,0,0,1,1,0,0,0,1,0,0,0,0,1,0,0,1,1,0,0] ?_
   refine au 3 ?_
   refine dq rfl (Qt.ldX ty3.h rfl hb0 (fun w s=>s.ext) rfl) (au 4 ?_)
   refine dq rfl (Qt.ldX ty22.h rfl hb0 (fun w s=>s.ext) rfl) (dp rfl (Pu.move rfl) ?_)
   obtain ⟨g10,H⟩:=gdE H
   obtain ⟨bl11,ol12,rfl⟩:=R_ptr h0 (ne_of_pos (pos_of g10))
   refine dp rfl (Pu.indexSl sl22.h rfl rfl g10) (dq rfl (Qt.ld0 (α:=UInt8) (Rd.base h0) ty5.h rfl rfl g10 (by rintro _ _ rfl; rfl)) ?_)
   obtain ⟨x13,hx13,H⟩:=bindE H
   refine dq rfl (Qt.call (vs:=[_,_]) ent245 rfl fun w s=>kind_Price_walk a0_n.cls ((gi a0_n.g.tiles a1_t).toNat:Int) w  hx13) (au 3 ?_)
   refine dq rfl (Qt.ldX ty3.h rfl hb0 (fun w s=>s.ext) rfl) (au 4 ?_)
   refine dq rfl (Qt.ldX ty22.h rfl hb0 (fun w s=>s.ext) rfl) (dp rfl (Pu.move rfl) ?_)
   obtain ⟨g14,H⟩:=gdE H
   refine dp rfl (Pu.indexSl sl22.h rfl rfl g14) (dq rfl (Qt.ld0 (α:=UInt8) (Rd.base h0) ty5.h rfl rfl g14 (by rintro _ _ rfl; rfl)) ?_)
   obtain ⟨x15,hx15,H⟩:=bindE H
   refine dq rfl (Qt.call (vs:=[_,_]) ent245 rfl fun w s=>kind_Price_walk a0_n.cls ((gi a0_n.g.tiles (gi a2_near a3_way)).toNat:Int) w  hx15) ?_
   obtain ⟨g16,H⟩:=gdE H
   refine dp rfl (Pu.addS rfl rfl g16) (dp rfl (Pu.assign rfl) (RD.nil (k6 _ _ (kq [0,3,4,7,12] ?_))))
   refine T.seq fun _ k7=>au 3 ?_
   refine T.cP H rfl (fun hc17 H=>?_) (fun hc17 H=>?_)
   ·refine kq [12] ?_
    refine T.seq fun _ k9=>T.region (rM rfl ?_)
    obtain ⟨g18,H⟩:=gdE H
    refine rp (Pu.mulS rfl rfl g18) (rA rfl (RS.nil (k9 _ _ (kq [10] ?_))))
    obtain rfl:=sj H
    refine T.rt (Cont.ret1 rfl rfl fun w' s=>?_)
    exact ⟨rfl,s.ext⟩
   refine T.skip (k7 _ _ ?_)
   refine T.seq fun _ k10=>?_
   exact nomatch H
  intro z19 H hJ7
  refine RS.splitP 30 rfl (fun hc6=>?_) (fun hc6=>?_)
  ·have H:=ifT hc6 H
   refine au 5 ?_
   obtain rfl:=sj H
   exact hJ7 _ _ sb (fun w s=>s)
  have H:=ifF hc6 H
  refine au 2 ?_
  obtain ⟨x20,hx20,H⟩:=bindE H
  refine rq (Qt.callV rfl h2 (fun w s=>s.ext) hx20 rfl) (au 2 ?_)
  obtain rfl:=sj H
  exact hJ7 _ _ sb (fun w s=>s)
 intro hJ4
 refine RS.splitP 20 rfl (fun hc3=>?_) (fun hc3=>?_)
 ·refine au 9 ?_
  exact hJ4 _ _ ⟨dOrT hc3,rfl,rfl,rfl,rfl,rfl,rfl,trivial⟩ (fun w s=>s)
 refine au 3 ?_
 refine rq (Qt.ldX ty41.h rfl hb0 (fun w s=>s.ext) rfl) (rM rfl ?_)
 obtain ⟨bl21,ol22,rfl⟩:=R_ptr h1 (ne_of_pos (pos_of (g5 hc3)))
 refine rp (Pu.indexSl sl41.h rfl rfl (g5 hc3)) (rq (Qt.ld0 (α:=Bool) (Rd.base h1) ty4.h rfl rfl (g5 hc3) (by rintro _ _ rfl; rfl)) (au 2 ?_))
 exact hJ4 _ _ ⟨dOrFB hc3,rfl,rfl,rfl,rfl,rfl,rfl,trivial⟩ (fun w s=>s)
theorem field_everywhere_walk (a0_x:Int) (w:World) {r:Bool} (H:field_everywhere a0_x = some r):Calls Tryz.prog 366 #[.int .i64 a0_x] w fun e w'=>e = .returned (.bool r)∧Ext w w':=by
 unfold field_everywhere at H
 refine te Tryz.func366 (Sat.start w) ?_
 refine au 4 ?_
 obtain rfl:=sj H
 refine T.rt (Cont.ret1 rfl rfl fun w' s=>?_)
 exact ⟨rfl,s.ext⟩
theorem field_Net_From_walk (a0_n:Net) (a1_goal:Int) (a2_in:Int→Option Bool) (w:World) {v0 v1 v2:Value} {p0g:Nat} (hb0:blk p0g [.int .i64 a0_n.g.w,.int .i64 a0_n.g.h,v0,.int .i64 a0_n.cls,v1] 233 (hpOf w)) (h0:R (hpOf w) a0_n.g.tiles [v0]) (h1:R (hpOf w) a0_n.free [v1]) (h2:FnQ Tryz.prog w v2 (fun (y0:Int)=>[.int .i64 y0]) (fun (r:Bool)=>.bool r) a2_in) {r:List Int} (H:field_Net_From a0_n a1_goal a2_in = some r):Calls Tryz.prog 365 #[.pointer (some ⟨p0g,0,none⟩),.int .i64 a1_goal,v2] w fun e w'=>∃ q1:(Option Nat × Nat),e = .returned (rowV q1 r.length)∧Sat w [row nilH 3 (rowV q1 r.length) r] w':=by
 have hm0:=R_max h0
 obtain ⟨p0,c0,rfl⟩:=R_form h0
 have hm1:=R_max h1
 obtain ⟨p1,c1,rfl⟩:=R_form h1
 unfold field_Net_From at H
 refine te Tryz.func365 (Sat.start w) ?_
 refine au 2 ?_
 refine T.seq fun _ k2=>T.region (RS.solid (Sd.litS (cs:=[_]) sl35.h zr3 rfl rfl rfl rfl rfl) rfl rfl fun b1=>?_)
 refine RS.weakS (fun w s=>s.litRow (α:=Int) (n:=1) 0 ([(-1)]:List Int) rfl (by decide) rfl ⟨[_],_,rfl,rfl,rfl⟩) ?_
 refine au 4 ?_
 refine rq (Qt.ldX ty22.h rfl hb0 (fun w s=>s.ext) rfl) (rp (Pu.lenSl sl22.h rfl) ?_)
 obtain ⟨x2,hx2,H⟩:=bindE H
 refine RS.solid (Sd.callN (vs:=[_,_]) ent57 rfl (fun w s=>slices_Repeat_Int_walk ([(-1)]:List Int) (a0_n.g.tiles.length:Int) w ((Rd.ofRowN 0 rfl) w s) hx2)) rfl rfl fun q3=>rA rfl (RS.nil (k2 _ _ (kq [0,1,2,7] ?_)))
 refine T.seq fun _ k3=>T.seq fun _ k4=>T.region (au 3 ?_)
 refine rq (Qt.ldX ty41.h rfl hb0 (fun w s=>s.ext) rfl) (rM rfl ?_)
 obtain ⟨g4,H⟩:=gdE H
 obtain ⟨bl5,ol6,rfl⟩:=R_ptr h1 (ne_of_pos (pos_of g4))
 refine rp (Pu.indexSl sl41.h rfl rfl g4) (rq (Qt.ld0 (α:=Bool) (Rd.base h1) ty4.h rfl rfl g4 (by rintro _ _ rfl; rfl)) (rp (Pu.not rfl) (RS.nil (k4 _ _ ?_))))
 refine T.cB H rfl (fun _ H=>nomatch H) (fun hc7 H=>?_)
 refine T.skip (k3 _ _ (kq [0,1,2,7] ?_))
 refine T.seq fun _ k6=>T.region (au 2 ?_)
 obtain ⟨g9,H⟩:=gdE H
 refine RS.solid (Sd.make (α:=Bool) (B:=nilH) false sl41.h zr4 rfl (by decide) rfl rfl (by omega) (by omega) (by omega)) rfl rfl fun b8=>rA rfl (RS.nil (k6 _ _ (kq [0,1,2,7,8] ?_)))
 refine T.seq fun _ k7=>T.region (au 2 ?_)
 obtain ⟨g10,H⟩:=gdE H
 refine RS.know (p:=∃ g cap,q3 = (some g,cap)) (fun w s=>(s.row_some (k:=1) rfl (pos_of g10))) ?_
 rintro ⟨gg11,cc12,rfl⟩
 refine rp (Pu.indexSl sl35.h rfl rfl g10) (RS.solid (Sd.st0 (α:=Int) 1 0 rfl ty3.h rfl rfl rfl g10 rfl rfl (by decide) rfl (by rintro _ _ rfl; rfl)) rfl rfl fun _=>RS.nil (k7 _ _ (kq [0,1,2,7,8] ?_)))
 refine T.seq fun _ k8=>T.region ?_
 obtain ⟨x13,hx13,H⟩:=bindE H
 obtain ⟨o14,rfl⟩:∃ z,z = x13:=⟨_,rfl⟩
 refine RS.solid (Sd.callN (vs:=[]) ent370 rfl (fun w s=>queue_New_walk  w  hx13)) rfl rfl fun g15=>rA rfl (RS.nil (k8 _ _ ?_))
 refine T.seq fun _ k9=>T.region (au 2 ?_)
 obtain ⟨z16,hz16,HZz16⟩:=bindE H
 subst hz16
 have H:=HZz16
 refine RS.weakS (fun w s=>s.optSome (C:=Que_ch) 3 rfl) ?_
 obtain ⟨x17,hx17,H⟩:=bindE H
 refine RS.solid (Sd.callF0 3 ent371 rfl rfl (fun w s=>queue_Queue_Push_walk g15 z16 0 a1_goal  hx17 w s)) rfl rfl fun _=>RS.nil (k9 _ _ (kq [0,2,7,8,9] ?_))
 refine T.seq fun _ k10=>T.seq fun _ k11=>T.region (rM rfl ?_)
 obtain ⟨x18,hx18,H⟩:=bindE H
 refine RS.solid (Sd.callF0 3 ent372 rfl rfl (fun w s=>queue_Queue_Pop_walk g15 x17  hx18 w s)) rfl rfl fun _=>au 7 ?_
 refine RS.nil (k11 _ _ (kq [0,2,7,8,9,10,11,12] ?_))
 refine T.joinE (σ:=Que × List Int) (γ:=Unit) H (fun s=>s) [(7,_)] sb (fun (v20,v21) _=>[]) (fun (v20,v21) _=>Sat w [row nilH 3 (rowV (some b1,1) 1) ([(-1)]:List Int),row nilH 3 (rowV (some gg11,cc12) x2.length) v21,dead,Que_ch g15 v20]) ?_ ?_
 ·rintro ⟨v20,v21⟩ ⟨⟩ H
  try dsimp only [Ex.then] at H
  refine Cont.kq [7] ?_
  refine id (k10 _ _ ?_)
  refine au 3 ?_
  obtain rfl:=sj H
  refine T.rt (Cont.ret1 rfl rfl fun w' s=>?_)
  exact ⟨(some gg11,cc12),(by simp only [(s.row_fits (q:=(some gg11,cc12)) (m:=x2.length) (k:=1) rfl).1]; try rfl),(Sat.relen (q:=(some gg11,cc12)) (m:=x2.length) 1 s rfl).pick [1] (by decide) rfl⟩
 intro z19 hz19 HX19 hJ19
 refine T.block ?_
 refine T.loopA (γ:=Unit) hz19 [(0,_),(2,_),(7,_),(8,_),(9,_)] (fun (v22,v23,v24,l25,l26,v27) _=>[(10,.int .i64 v22),(11,.int .i64 v23),(12,.bool v24)]) (fun (v22,v23,v24,l25,l26,v27) _=>Sat w [row nilH 3 (rowV (some b1,1) 1) ([(-1)]:List Int),row nilH 3 (rowV (some gg11,cc12) x2.length) l25,row nilH 4 (rowV (some b8,(x2.length:Int).toNat) ((x2.length:Int).toNat)) l26,Que_ch g15 v27]) () sb sb (fun w s=>s) ?_
 rintro ⟨v22,v23,v24,l25,l26,v27⟩ ⟨⟩ y28 H hd19 KL19 hL19
 try dsimp only [Ex.then] at H
 refine kq [10,11,12,0,2,7,8,9] ?_
 refine T.seq fun _ k13=>au 2 ?_
 refine T.cB H rfl (fun hc29 H=>?_) (fun hc29 H=>?_)
 ·refine T.skip (k13 _ _ ?_)
  refine T.seq fun _ k15=>T.block (T.seq fun _ k16=>T.seq fun _ k17=>T.region (au 2 ?_))
  obtain ⟨g30,H⟩:=gdE H
  refine RS.know (fun w s=>(s.row_fits (q:=(some b8,(x2.length:Int).toNat)) (m:=(x2.length:Int).toNat) (k:=2) rfl)) fun hf31=>?_
  refine rp (Pu.indexSl sl41.h rfl rfl g30) (rq (Qt.ld0 (α:=Bool) (Rd.ofRowN 2 rfl) ty4.h rfl rfl (idx_of hf31.1 g30) (by rintro _ _ rfl; rfl)) (RS.nil (k17 _ _ ?_)))
  refine T.cB H rfl (fun hc32 H=>?_) (fun hc32 H=>?_)
  ·refine T.xt (k15 _ _ (kq [0,2,7,8,9] ?_))
   refine T.region (rM rfl ?_)
   obtain ⟨x33,hx33,H⟩:=bindE H
   refine RS.solid (Sd.callF0 3 ent372 rfl rfl (fun w s=>queue_Queue_Pop_walk g15 v27  hx33 w s)) rfl rfl fun _=>au 7 ?_
   refine RS.nil (hL19 _ _ (x33.1,x33.2.1,x33.2.2.1,l25,l26,x33.2.2.2) () H sb sb (fun w s=>s))
  refine T.skip (k16 _ _ (kq [0,2,7,8,9,10,11] ?_))
  refine T.seq fun _ k18=>T.region (au 2 ?_)
  obtain ⟨g34,H⟩:=gdE H
  refine RS.know (fun w s=>(s.row_fits (q:=(some b8,(x2.length:Int).toNat)) (m:=(x2.length:Int).toNat) (k:=2) rfl)) fun hf35=>?_
  refine rp (Pu.indexSl sl41.h rfl rfl g34) (RS.solid (Sd.st0 (α:=Bool) 2 true rfl ty4.h rfl rfl rfl (idx_of hf35.1 g34) rfl rfl (by decide) rfl (by rintro _ _ rfl; rfl)) rfl rfl fun _=>RS.nil (k18 _ _ (kq [0,2,7,8,9,10,11] ?_)))
  refine T.seq fun _ k19=>T.region (au 3 ?_)
  refine rq (Qt.ldXA (us:=[_,_,_]) ty24.h rfl hb0 (fun w s=>s.ext) rfl rfl) (rM rfl ?_)
  obtain ⟨x36,hx36,H⟩:=bindE H
  refine rq (Qt.call (vs:=[_,_]) ent269 rfl fun w s=>ground_Beside_walk a0_n.g v23 w ((Rd.base h0) w s) hx36) (RS.solid (Sd.alloc (cs:=nums (List.replicate 8 0)) zr343 rfl) rfl rfl fun b37=>?_)
  obtain ⟨g38,H⟩:=gdE H
  refine RS.solid (Sd.stB (cs':=nums x36) (us:=nums x36) 4 ty343.h rfl rfl rfl (by first | rfl | simp [Value.cells]) (by simp [nums,(g38).2]) (by simp [nums,(g38).1]) (by simp [nums,Value.oneCell']) (by rw [List.take_zero,List.nil_append,List.drop_of_length_le (by simp [nums,(g38).1]),List.append_nil])) rfl rfl fun _=>RS.nil (k19 _ _ (kq [0,2,7,8,9,10,11,13] ?_))
  refine T.seq fun _ k20=>T.region ?_
  obtain ⟨g39,H⟩:=gdE H
  refine rq (Qt.ldBA (us:=nums x36) 4 ty343.h rfl rfl (by rw [List.drop_zero]; exact List.take_of_length_le (by simp [nums,g39])) (by simp [nums,g39])) (rM rfl (RS.nil (k20 _ _ ?_)))
  refine T.joinE (σ:=Que × List Int) (γ:=Unit) H (fun s=>s) [(0,_),(2,_),(7,_),(8,_),(9,_)] sb (fun (v41,v42) _=>[]) (fun (v41,v42) _=>Sat w [row nilH 3 (rowV (some b1,1) 1) ([(-1)]:List Int),row nilH 3 (rowV (some gg11,cc12) x2.length) v42,row nilH 4 (rowV (some b8,(x2.length:Int).toNat) ((x2.length:Int).toNat)) (si l26 v23 true),Que_ch g15 v41,blk b37 (nums x36) 343]) ?_ ?_
  ·rintro ⟨v41,v42⟩ ⟨⟩ H
   try dsimp only [Ex.then] at H
   refine Cont.kq [0,2,7,8,9] ?_
   refine id (k15 _ _ ?_)
   refine T.region (rM rfl ?_)
   obtain ⟨x43,hx43,H⟩:=bindE H
   refine RS.solid (Sd.callF0 3 ent372 rfl rfl (fun w s=>queue_Queue_Pop_walk g15 v41  hx43 w s)) rfl rfl fun _=>au 7 ?_
   refine RS.nil (hL19 _ _ (x43.1,x43.2.1,x43.2.2.1,v42,(si l26 v23 true),x43.2.2.2) () H sb sb (fun w s=>s.pc [0,1,2,3]))
  intro z40 hz40 HX40 hJ40
  refine T.block ?_
  refine T.loopA (γ:=Unit) hz40 [(0,_),(2,_),(7,_),(8,_),(9,_),(10,_),(11,_),(13,_),(70,_)] (fun (v44,l45,v46) _=>[(71,.int .i64 v44)]) (fun (v44,l45,v46) _=>Sat w [row nilH 3 (rowV (some b1,1) 1) ([(-1)]:List Int),row nilH 3 (rowV (some gg11,cc12) x2.length) l45,row nilH 4 (rowV (some b8,(x2.length:Int).toNat) ((x2.length:Int).toNat)) (si l26 v23 true),Que_ch g15 v46,blk b37 (nums x36) 343]) () sb sb (fun w s=>s) ?_
  rintro ⟨v44,l45,v46⟩ ⟨⟩ y47 H hd40 KL40 hL40
  try dsimp only [Ex.then] at H
  refine kq [71,0,2,7,8,9,10,11,13,70] ?_
  refine au 2 ?_
  refine T.seq fun _ k22=>?_
  refine T.cP H rfl (fun hc48 H=>?_) (fun hc48 H=>?_)
  ·refine T.skip (k22 _ _ ?_)
   refine T.seq fun _ k23=>T.block (T.seq fun _ k24=>T.region (rM rfl ?_))
   obtain ⟨g49,H⟩:=gdE H
   refine rp (Pu.indexN (xs:=x36) ar343 ty3.h rfl rfl g49) (au 2 ?_)
   refine RS.nil (k24 _ _ (kq [0,2,7,8,9,10,11,13,14,15,70,71] ?_))
   refine T.seq fun _ k25=>T.region (au 2 ?_)
   obtain ⟨g50,H⟩:=gdE H
   refine rq (Qt.ldBA (us:=nums x36) 4 ty343.h rfl rfl (by rw [List.drop_zero]; exact List.take_of_length_le (by simp [nums,g50])) (by simp [nums,g50])) (au 2 ?_)
   obtain ⟨x51,hx51,H⟩:=bindE H
   refine rq (Qt.call (vs:=[_,_,_,_,_]) ent367 rfl fun w s=>field_Net_Step_walk a0_n v23 x36 v44 a2_in w (blk_ext s.ext hb0) ((Rd.base h0) w s) ((Rd.base h1) w s) (FnQ.ext s.ext h2) hx51) (rA rfl (RS.nil (k25 _ _ (kq [0,2,7,8,9,10,11,13,15,16,70,71] ?_))))
   refine T.seq fun _ k26=>T.region (au 3 ?_)
   obtain ⟨g54,H⟩:=gdE H
   refine RS.joinV 6 89 (.bool (decide ((0 < x51)∧((!(gi (si l26 v23 true) (gi x36 v44))) = true)))) [(0,_),(2,_),(7,_),(8,_),(9,_),(10,_),(11,_),(13,_),(15,_),(16,_),(70,_),(71,_)] sb ?_ ?_
   ·refine rM rfl ?_
    obtain ⟨g57,H⟩:=gdE H
    obtain ⟨g58,H⟩:=gdE H
    obtain ⟨g59,H⟩:=gdE H
    refine RS.joinV 16 106 (.bool (decide (((0 < x51)∧((!(gi (si l26 v23 true) (gi x36 v44))) = true))∧(((gi l45 (gi x36 v44)) < 0) ∨ ((v22 + x51) < (gi l45 (gi x36 v44))))))) [(0,_),(2,_),(7,_),(8,_),(9,_),(10,_),(11,_),(13,_),(15,_),(16,_),(70,_),(71,_)] sb ?_ ?_
    ·refine RS.nil (k26 _ _ ?_)
     refine T.cP H rfl (fun hc60 H=>?_) (fun hc60 H=>?_)
     ·refine T.seq fun _ k27=>T.region (au 4 ?_)
      obtain ⟨g61,H⟩:=gdE H
      refine rp (Pu.addS rfl rfl g61) ?_
      obtain ⟨g62,H⟩:=gdE H
      refine RS.know (fun w s=>(s.row_fits (q:=(some gg11,cc12)) (m:=x2.length) (k:=1) rfl)) fun hf63=>?_
      refine rp (Pu.indexSl sl35.h rfl rfl g62) (RS.solid (Sd.st0 (α:=Int) 1 (v22 + x51) rfl ty3.h rfl rfl rfl (idx_of hf63.1 g62) rfl rfl (by decide) rfl (by rintro _ _ rfl; rfl)) rfl rfl fun _=>RS.nil (k27 _ _ (kq [0,2,7,8,9,10,11,13,15,16,70,71] ?_)))
      refine T.region (au 3 ?_)
      obtain ⟨g64,H⟩:=gdE H
      refine rp (Pu.addS rfl rfl g64) (rM rfl ?_)
      obtain ⟨x65,hx65,H⟩:=bindE H
      refine RS.solid (Sd.callF0 3 ent371 rfl rfl (fun w s=>queue_Queue_Push_walk g15 v46 (v22 + x51) (gi x36 v44)  hx65 w s)) rfl rfl fun _=>RS.nil (k23 _ _ (kq [0,2,7,8,9,10,11,13,70,71] ?_))
      refine T.region ?_
      obtain ⟨g66,H⟩:=gdE H
      refine rp (Pu.addS rfl rfl g66) (rM rfl (RS.nil (hL40 _ _ ((v44 + 1),(si l45 (gi x36 v44) (v22 + x51)),x65) () H sb sb (fun w s=>s))))
     refine T.skip (k23 _ _ (kq [0,2,7,8,9,10,11,13,70,71] ?_))
     refine T.region ?_
     obtain ⟨g67,H⟩:=gdE H
     refine rp (Pu.addS rfl rfl g67) (rM rfl (RS.nil (hL40 _ _ ((v44 + 1),l45,v46) () H sb sb (fun w s=>s))))
    intro hJ56
    refine RS.splitP 90 rfl (fun hc55=>?_) (fun hc55=>?_)
    ·refine au 2 ?_
     refine RS.know (fun w s=>(s.row_fits (q:=(some gg11,cc12)) (m:=x2.length) (k:=1) rfl)) fun hf68=>?_
     refine rp (Pu.indexSl sl35.h rfl rfl (g57 hc55)) (rq (Qt.ld0 (α:=Int) (Rd.ofRowN 1 rfl) ty3.h rfl rfl (idx_of hf68.1 (g57 hc55)) (by rintro _ _ rfl; rfl)) (au 2 ?_))
     refine RS.joinV 9 105 (.bool (decide (((gi l45 (gi x36 v44)) < 0) ∨ ((v22 + x51) < (gi l45 (gi x36 v44)))))) [(0,_),(2,_),(7,_),(8,_),(9,_),(10,_),(11,_),(13,_),(15,_),(16,_),(70,_),(71,_),(89,_),(90,_),(91,_),(92,_),(93,_),(94,_),(95,_)] sb ?_ ?_
     ·refine rp (Pu.pickT rfl rfl) ?_
      exact hJ56 _ _ ⟨dAndT hc55,rfl,rfl,rfl,rfl,rfl,rfl,rfl,rfl,rfl,rfl,rfl,rfl,trivial⟩ (fun w s=>s)
     intro hJ70
     refine RS.splitP 96 rfl (fun hc69=>?_) (fun hc69=>?_)
     ·refine au 9 ?_
      exact hJ70 _ _ ⟨dOrT hc69,rfl,rfl,rfl,rfl,rfl,rfl,rfl,rfl,rfl,rfl,rfl,rfl,rfl,rfl,rfl,rfl,rfl,rfl,rfl,trivial⟩ (fun w s=>s)
     refine au 2 ?_
     refine rp (Pu.addS rfl rfl ((g58 hc55) hc69)) (au 2 ?_)
     refine RS.know (fun w s=>(s.row_fits (q:=(some gg11,cc12)) (m:=x2.length) (k:=1) rfl)) fun hf71=>?_
     refine rp (Pu.indexSl sl35.h rfl rfl ((g59 hc55) hc69)) (rq (Qt.ld0 (α:=Int) (Rd.ofRowN 1 rfl) ty3.h rfl rfl (idx_of hf71.1 ((g59 hc55) hc69)) (by rintro _ _ rfl; rfl)) (au 2 ?_))
     exact hJ70 _ _ ⟨dOrF hc69,rfl,rfl,rfl,rfl,rfl,rfl,rfl,rfl,rfl,rfl,rfl,rfl,rfl,rfl,rfl,rfl,rfl,rfl,rfl,trivial⟩ (fun w s=>s)
    refine au 16 ?_
    exact hJ56 _ _ ⟨dAndF hc55,rfl,rfl,rfl,rfl,rfl,rfl,rfl,rfl,rfl,rfl,rfl,rfl,trivial⟩ (fun w s=>s)
   intro hJ53
   refine RS.splitP 83 rfl (fun hc52=>?_) (fun hc52=>?_)
   ·refine au 2 ?_
    refine RS.know (fun w s=>(s.row_fits (q:=(some b8,(x2.length:Int).toNat)) (m:=(x2.length:Int).toNat) (k:=2) rfl)) fun hf72=>?_
    refine rp (Pu.indexSl sl41.h rfl rfl (g54 hc52)) (rq (Qt.ld0 (α:=Bool) (Rd.ofRowN 2 rfl) ty4.h rfl rfl (idx_of hf72.1 (g54 hc52)) (by rintro _ _ rfl; rfl)) (au 2 ?_))
    exact hJ53 _ _ ⟨dAndTB hc52,rfl,rfl,rfl,rfl,rfl,rfl,rfl,rfl,rfl,rfl,rfl,rfl,trivial⟩ (fun w s=>s)
   refine au 6 ?_
   exact hJ53 _ _ ⟨dAndF hc52,rfl,rfl,rfl,rfl,rfl,rfl,rfl,rfl,rfl,rfl,rfl,rfl,trivial⟩ (fun w s=>s)
  obtain rfl:=hd40 _ H
  refine T.xt (hJ40 _ _ (v46,l45) () HX40 sb trivial (fun w s=>s))
 obtain rfl:=hd19 _ H
 refine T.xt (hJ19 _ _ (v27,l25) () HX19 sb trivial (fun w s=>(s.deadRow).pick [0,1,4,3] (by decide) rfl))
theorem field_Open_walk (a0_g:Grd) (a1_l:List Bld) (a2_class:Int) (a3_size:Int) (w:World) {v0 v1:Value} (h0:R (hpOf w) a0_g.tiles [v0]) (h1:R (hpOf w) a1_l [v1]) {r:Net} (H:field_Open a0_g a1_l a2_class a3_size = some r):Calls Tryz.prog 81 #[.agg #[.int .i64 a0_g.w,.int .i64 a0_g.h,v0],v1,.int .i64 a2_class,.int .i64 a3_size] w fun e w'=>∃ g:Nat × (Option Nat × Nat),e = .returned (.pointer (some ⟨g.1,0,none⟩))∧Sat w [blk g.1 [.int .i64 r.g.w,.int .i64 r.g.h,v0,.int .i64 r.cls,rowV g.2 r.free.length] 233,row nilH 4 (rowV g.2 r.free.length) r.free] w':=by
 have hm0:=R_max h0
 obtain ⟨p0,c0,rfl⟩:=R_form h0
 have hm1:=R_max h1
 obtain ⟨p1,c1,rfl⟩:=R_form h1
 unfold field_Open at H
 refine te Tryz.func81 (Sat.start w) ?_
 refine T.seq fun _ k1=>T.region (RS.solid (Sd.box (cs:=[_,_,_]) rfl rfl) rfl rfl fun b1=>rA rfl (RS.nil (k1 _ _ ?_)))
 refine T.seq fun _ k2=>dr mixed [1,0,1,0,0,0,3,0,3,0] ?_
 refine au 6 ?_
 obtain ⟨x2,hx2,H⟩:=bindE H
 refine RD.solid rfl (.inl rfl) rfl rfl (Sd.callN (vs:=[_,_,_,_]) ent136 rfl (fun w s=>field_Fit_walk a0_g a1_l a2_class a3_size w ((Rd.base h0) w s) ((Rd.base h1) w s) hx2)) (fun _=>ClE.sat _ _) (fun _ _ _=>trivial) (fun _ _ _ s=>s.drop1) fun q3=>?_
 refine dp rfl (Pu.build (cells:=[_,_,_,_,_]) st233 rfl rfl) (RD.solid rfl (.inl rfl) rfl rfl (Sd.box (cs:=[_,_,_,_,_]) rfl rfl) (fun _=>ClE.sat _ _) (fun _ _ _=>trivial) (fun _ _ _ s=>s.drop1) fun b4=>?_)
 refine dp rfl (Pu.assign rfl) (RD.nil (k2 _ _ (kq [8] ?_)))
 obtain rfl:=sj H
 refine T.rt (Cont.ret1 rfl rfl fun w' s=>?_)
 exact ⟨⟨b4,q3⟩,rfl,s.pc [2,1]⟩
theorem field_Net_Toward_walk (a0_n:Net) (a1_goal:Int) (w:World) {v0 v1:Value} {p0g:Nat} (hb0:blk p0g [.int .i64 a0_n.g.w,.int .i64 a0_n.g.h,v0,.int .i64 a0_n.cls,v1] 233 (hpOf w)) (h0:R (hpOf w) a0_n.g.tiles [v0]) (h1:R (hpOf w) a0_n.free [v1]) {r:List Int} (H:field_Net_Toward a0_n a1_goal = some r):Calls Tryz.prog 360 #[.pointer (some ⟨p0g,0,none⟩),.int .i64 a1_goal] w fun e w'=>∃ q1:(Option Nat × Nat),e = .returned (rowV q1 r.length)∧Sat w [row nilH 3 (rowV q1 r.length) r] w':=by
 have hm0:=R_max h0
 obtain ⟨p0,c0,rfl⟩:=R_form h0
 have hm1:=R_max h1
 obtain ⟨p1,c1,rfl⟩:=R_form h1
 unfold field_Net_Toward at H
 refine te Tryz.func360 (Sat.start w) ?_
 refine au 2 ?_
 refine T.seq fun _ k2=>T.region (au 2 ?_)
 obtain ⟨x1,hx1,H⟩:=bindE H
 refine RS.solid (Sd.callN (vs:=[_,_,_]) ent365 rfl (fun w s=>field_Net_From_walk a0_n a1_goal (fun y0=>field_everywhere y0) w (blk_ext s.ext hb0) ((Rd.base h0) w s) ((Rd.base h1) w s) (⟨366,_,rfl,ent366,fun y0 r w' he hr=>field_everywhere_walk y0 w'  hr⟩) hx1)) rfl rfl fun q2=>rA rfl (RS.nil (k2 _ _ (kq [0,5] ?_)))
 refine T.seq fun _ k3=>T.region (RS.solid (Sd.litS (cs:=[_]) sl35.h zr3 rfl rfl rfl rfl rfl) rfl rfl fun b3=>?_)
 refine RS.weakS (fun w s=>s.litRow (α:=Int) (n:=1) 1 ([(-1)]:List Int) rfl (by decide) rfl ⟨[_],_,rfl,rfl,rfl⟩) ?_
 refine au 2 ?_
 obtain ⟨x4,hx4,H⟩:=bindE H
 refine RS.solid (Sd.callN (vs:=[_,_]) ent57 rfl (fun w s=>slices_Repeat_Int_walk ([(-1)]:List Int) (x1.length:Int) w ((Rd.ofRowN 1 rfl) w s) hx4)) rfl rfl fun q5=>rA rfl (RS.nil (k3 _ _ (kq [0,5,6] ?_)))
 refine T.seq fun _ k4=>au 4 ?_
 refine T.joinE (σ:=List Int) (γ:=Unit) H (fun s=>s) [(6,_)] sb (fun v7 _=>[]) (fun v7 _=>Sat w [row nilH 3 (rowV q2 x1.length) x1,row nilH 3 (rowV (some b3,1) 1) ([(-1)]:List Int),row nilH 3 (rowV q5 x4.length) v7]) ?_ ?_
 ·rintro v7 ⟨⟩ H
  try dsimp only [Ex.then] at H
  refine Cont.kq [6] ?_
  refine id (k4 _ _ ?_)
  refine au 3 ?_
  obtain rfl:=sj H
  refine T.rt (Cont.ret1 rfl rfl fun w' s=>?_)
  exact ⟨q5,(by simp only [(s.row_fits (q:=q5) (m:=x4.length) (k:=2) rfl).1]; try rfl),(Sat.relen (q:=q5) (m:=x4.length) 2 s rfl).pick [2] (by decide) rfl⟩
 intro z6 hz6 HX6 hJ6
 refine T.block ?_
 refine T.loopA (γ:=Unit) hz6 [(0,_),(5,_),(6,_),(20,_),(21,_)] (fun (v8,l9) _=>[(22,.int .i64 v8)]) (fun (v8,l9) _=>Sat w [row nilH 3 (rowV q2 x1.length) x1,row nilH 3 (rowV (some b3,1) 1) ([(-1)]:List Int),row nilH 3 (rowV q5 x4.length) l9]) () sb sb (fun w s=>s) ?_
 rintro ⟨v8,l9⟩ ⟨⟩ y10 H hd6 KL6 hL6
 try dsimp only [Ex.then] at H
 refine kq [22,0,5,6,20,21] ?_
 refine au 2 ?_
 refine T.seq fun _ k8=>?_
 refine T.cP H rfl (fun hc11 H=>?_) (fun hc11 H=>?_)
 ·refine T.skip (k8 _ _ ?_)
  refine T.seq fun _ k9=>T.block (T.seq fun _ k10=>T.region (rM rfl ?_))
  obtain ⟨g12,H⟩:=gdE H
  refine RS.know (p:=∃ g cap,q2 = (some g,cap)) (fun w s=>(s.row_some (k:=0) rfl (pos_of g12))) ?_
  rintro ⟨gg13,cc14,rfl⟩
  refine rp (Pu.indexSl sl35.h rfl rfl g12) (rq (Qt.ld0 (α:=Int) (Rd.ofRowN 0 rfl) ty3.h rfl rfl g12 (by rintro _ _ rfl; rfl)) (au 2 ?_))
  refine RS.nil (k10 _ _ (kq [0,5,6,7,8,20,21,22] ?_))
  refine T.seq fun _ k11=>au 3 ?_
  refine T.cP H rfl (fun hc15 H=>?_) (fun hc15 H=>?_)
  ·refine T.xt (k9 _ _ (kq [0,5,6,20,21,22] ?_))
   refine T.region ?_
   obtain ⟨g16,H⟩:=gdE H
   refine rp (Pu.addS rfl rfl g16) (rM rfl (RS.nil (hL6 _ _ ((v8 + 1),l9) () H sb sb (fun w s=>s))))
  refine T.skip (k11 _ _ ?_)
  refine T.seq fun _ k13=>T.region (au 3 ?_)
  refine rq (Qt.ldXA (us:=[_,_,_]) ty24.h rfl hb0 (fun w s=>s.ext) rfl rfl) (rM rfl ?_)
  obtain ⟨x17,hx17,H⟩:=bindE H
  refine rq (Qt.call (vs:=[_,_]) ent269 rfl fun w s=>ground_Beside_walk a0_n.g v8 w ((Rd.base h0) w s) hx17) (RS.solid (Sd.alloc (cs:=nums (List.replicate 8 0)) zr343 rfl) rfl rfl fun b18=>?_)
  obtain ⟨g19,H⟩:=gdE H
  refine RS.solid (Sd.stB (cs':=nums x17) (us:=nums x17) 3 ty343.h rfl rfl rfl (by first | rfl | simp [Value.cells]) (by simp [nums,(g19).2]) (by simp [nums,(g19).1]) (by simp [nums,Value.oneCell']) (by rw [List.take_zero,List.nil_append,List.drop_of_length_le (by simp [nums,(g19).1]),List.append_nil])) rfl rfl fun _=>RS.nil (k13 _ _ (kq [0,5,6,7,8,9,20,21,22] ?_))
  refine T.seq fun _ k14=>T.region ?_
  obtain ⟨g20,H⟩:=gdE H
  refine rq (Qt.ldBA (us:=nums x17) 3 ty343.h rfl rfl (by rw [List.drop_zero]; exact List.take_of_length_le (by simp [nums,g20])) (by simp [nums,g20])) (rM rfl (RS.nil (k14 _ _ ?_)))
  refine T.joinE (σ:=List Int) (γ:=Unit) H (fun s=>s) [(0,_),(5,_),(6,_),(20,_),(21,_),(22,_)] sb (fun v22 _=>[]) (fun v22 _=>Sat w [row nilH 3 (rowV (some gg13,cc14) x1.length) x1,row nilH 3 (rowV (some b3,1) 1) ([(-1)]:List Int),row nilH 3 (rowV q5 x4.length) v22,blk b18 (nums x17) 343]) ?_ ?_
  ·rintro v22 ⟨⟩ H
   try dsimp only [Ex.then] at H
   refine Cont.kq [0,5,6,20,21,22] ?_
   refine id (k9 _ _ ?_)
   refine T.region ?_
   obtain ⟨g23,H⟩:=gdE H
   refine rp (Pu.addS rfl rfl g23) (rM rfl (RS.nil (hL6 _ _ ((v8 + 1),v22) () H sb sb (fun w s=>s.pc [0,1,2]))))
  intro z21 hz21 HX21 hJ21
  refine T.block ?_
  refine T.loopA (γ:=Unit) hz21 [(0,_),(5,_),(6,_),(7,_),(8,_),(9,_),(20,_),(21,_),(22,_),(35,_)] (fun v24 _=>[(36,.int .i64 v24)]) (fun v24 _=>Sat w [row nilH 3 (rowV (some gg13,cc14) x1.length) x1,row nilH 3 (rowV (some b3,1) 1) ([(-1)]:List Int),row nilH 3 (rowV q5 x4.length) l9,blk b18 (nums x17) 343]) () sb sb (fun w s=>s) ?_
  rintro v24 ⟨⟩ y25 H hd21 KL21 hL21
  try dsimp only [Ex.then] at H
  refine kq [36,0,5,6,7,8,9,20,21,22,35] ?_
  refine au 2 ?_
  refine T.seq fun _ k16=>?_
  refine T.cP H rfl (fun hc26 H=>?_) (fun hc26 H=>?_)
  ·refine T.skip (k16 _ _ ?_)
   refine T.seq fun _ k17=>T.block (T.seq fun _ k18=>T.region (rM rfl ?_))
   obtain ⟨g27,H⟩:=gdE H
   refine rp (Pu.indexN (xs:=x17) ar343 ty3.h rfl rfl g27) (au 2 ?_)
   refine RS.nil (k18 _ _ (kq [0,5,6,7,8,9,10,11,20,21,22,35,36] ?_))
   refine T.seq fun _ k19=>T.region (au 2 ?_)
   obtain ⟨g28,H⟩:=gdE H
   refine rq (Qt.ldBA (us:=nums x17) 3 ty343.h rfl rfl (by rw [List.drop_zero]; exact List.take_of_length_le (by simp [nums,g28])) (by simp [nums,g28])) (rM rfl ?_)
   obtain ⟨x29,hx29,H⟩:=bindE H
   refine rq (Qt.call (vs:=[_,_,_,_,_]) ent367 rfl fun w s=>field_Net_Step_walk a0_n v8 x17 v24 (fun y0=>field_everywhere y0) w (blk_ext s.ext hb0) ((Rd.base h0) w s) ((Rd.base h1) w s) (⟨366,_,rfl,ent366,fun y0 r w' he hr=>field_everywhere_walk y0 w'  hr⟩) hx29) (rA rfl (RS.nil (k19 _ _ (kq [0,5,6,7,8,9,10,11,12,20,21,22,35,36] ?_))))
   refine T.seq fun _ k20=>T.region (au 3 ?_)
   obtain ⟨g32,H⟩:=gdE H
   refine RS.joinV 6 53 (.bool (decide ((0 < x29)∧(0 ≤ (gi x1 (gi x17 v24)))))) [(0,_),(5,_),(6,_),(7,_),(8,_),(9,_),(10,_),(11,_),(12,_),(20,_),(21,_),(22,_),(35,_),(36,_)] sb ?_ ?_
   ·refine rM rfl ?_
    obtain ⟨g35,H⟩:=gdE H
    obtain ⟨g36,H⟩:=gdE H
    refine RS.joinV 9 63 (.bool (decide (((0 < x29)∧(0 ≤ (gi x1 (gi x17 v24))))∧((x29 + (gi x1 (gi x17 v24))) = (gi x1 v8))))) [(0,_),(5,_),(6,_),(7,_),(8,_),(9,_),(10,_),(20,_),(21,_),(22,_),(35,_),(36,_)] sb ?_ ?_
    ·refine RS.nil (k20 _ _ ?_)
     refine T.cP H rfl (fun hc37 H=>?_) (fun hc37 H=>?_)
     ·refine kq [0,5,6,7,10,20,21,22] ?_
      refine T.seq fun _ k21=>T.region (au 3 ?_)
      obtain ⟨g38,H⟩:=gdE H
      refine RS.know (fun w s=>(s.row_fits (q:=q5) (m:=x4.length) (k:=2) rfl)) fun hf39=>?_
      refine RS.know (p:=∃ g cap,q5 = (some g,cap)) (fun w s=>(s.row_some (k:=2) rfl (pos_of (idx_of hf39.1 g38)))) ?_
      rintro ⟨gg40,cc41,rfl⟩
      refine rp (Pu.indexSl sl35.h rfl rfl g38) (RS.solid (Sd.st0 (α:=Int) 2 v24 rfl ty3.h rfl rfl rfl (idx_of hf39.1 g38) rfl rfl (by decide) rfl (by rintro _ _ rfl; rfl)) rfl rfl fun _=>RS.nil (k21 _ _ (kq [0,5,6,20,21,22] ?_)))
      obtain rfl:=hd21 _ H
      refine T.xt (hJ21 _ _ (si l9 v8 v24) () HX21 sb trivial (fun w s=>s))
     refine T.skip (k17 _ _ ?_)
     refine T.region ?_
     obtain ⟨g42,H⟩:=gdE H
     refine rp (Pu.addS rfl rfl g42) (rM rfl (RS.nil (hL21 _ _ (v24 + 1) () H sb sb (fun w s=>s))))
    intro hJ34
    refine RS.splitP 54 rfl (fun hc33=>?_) (fun hc33=>?_)
    ·refine au 3 ?_
     refine rp (Pu.indexSl sl35.h rfl rfl (g35 hc33)) (rq (Qt.ld0 (α:=Int) (Rd.ofRowN 0 rfl) ty3.h rfl rfl (g35 hc33) (by rintro _ _ rfl; rfl)) (rp (Pu.addS rfl rfl (g36 hc33)) (au 3 ?_)))
     exact hJ34 _ _ ⟨dAndT hc33,rfl,rfl,rfl,rfl,rfl,rfl,rfl,rfl,rfl,rfl,rfl,rfl,trivial⟩ (fun w s=>s)
    refine au 9 ?_
    exact hJ34 _ _ ⟨dAndF hc33,rfl,rfl,rfl,rfl,rfl,rfl,rfl,rfl,rfl,rfl,rfl,rfl,trivial⟩ (fun w s=>s)
   intro hJ31
   refine RS.splitP 47 rfl (fun hc30=>?_) (fun hc30=>?_)
   ·refine au 2 ?_
    refine rp (Pu.indexSl sl35.h rfl rfl (g32 hc30)) (rq (Qt.ld0 (α:=Int) (Rd.ofRowN 0 rfl) ty3.h rfl rfl (g32 hc30) (by rintro _ _ rfl; rfl)) (au 2 ?_))
    exact hJ31 _ _ ⟨dAndT hc30,rfl,rfl,rfl,rfl,rfl,rfl,rfl,rfl,rfl,rfl,rfl,rfl,rfl,rfl,trivial⟩ (fun w s=>s)
   refine au 6 ?_
   exact hJ31 _ _ ⟨dAndF hc30,rfl,rfl,rfl,rfl,rfl,rfl,rfl,rfl,rfl,rfl,rfl,rfl,rfl,rfl,trivial⟩ (fun w s=>s)
  obtain rfl:=hd21 _ H
  refine T.xt (hJ21 _ _ l9 () HX21 sb trivial (fun w s=>s))
 obtain rfl:=hd6 _ H
 refine T.xt (hJ6 _ _ l9 () HX6 sb trivial (fun w s=>s))
end Go.Proofs.YtmngdgclldkcfaaGreat
