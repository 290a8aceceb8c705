/-
  Walks of commands.
-/
import Derived.Test.YtmngdgclldkcfaaGreatRows
import Derived.Test.YtmngdgclldkcfaaGreatJ6
import Derived.Test.YtmngdgclldkcfaaGreatJ7
import Derived.Test.YtmngdgclldkcfaaGreatJ24
import Derived.Test.YtmngdgclldkcfaaGreatJ9
set_option linter.unusedVariables false
set_option linter.unusedSimpArgs false
set_option maxRecDepth 20000
set_option maxHeartbeats 4000000
namespace Go.Proofs.YtmngdgclldkcfaaGreat
open Go.Vg
open Enc (R)
theorem ent126:Ent Tryz.prog 126:=en Tryz.func126
theorem ent127:Ent Tryz.prog 127:=en Tryz.func127
theorem ent129:Ent Tryz.prog 129:=en Tryz.func129
theorem ent130:Ent Tryz.prog 130:=en Tryz.func130
theorem ent186:Ent Tryz.prog 186:=en Tryz.func186
theorem ent187:Ent Tryz.prog 187:=en Tryz.func187
theorem ent188:Ent Tryz.prog 188:=en Tryz.func188
theorem ent189:Ent Tryz.prog 189:=en Tryz.func189
theorem ent190:Ent Tryz.prog 190:=en Tryz.func190
theorem ent191:Ent Tryz.prog 191:=en Tryz.func191
theorem ent192:Ent Tryz.prog 192:=en Tryz.func192
theorem ent193:Ent Tryz.prog 193:=en Tryz.func193
theorem ent198:Ent Tryz.prog 198:=en Tryz.func198
theorem ent255:Ent Tryz.prog 255:=en Tryz.func255
theorem ent256:Ent Tryz.prog 256:=en Tryz.func256
theorem ent72:Ent Tryz.prog 72:=en Tryz.func72
instance fd159_0:FdC Tryz.prog 159 0 0:={}
instance fd159_1:FdC Tryz.prog 159 1 1:={}
instance fd159_2:FdC Tryz.prog 159 2 11:={}
instance fd73_3:FdC Tryz.prog 73 3 3:={}
theorem fty289:funcTy Tryz.prog 289 = true:=by kernel_rfl
theorem mpz279:mpZ Tryz.prog 279 = some (.slice none 0 0):=by kernel_rfl
theorem st135:stTy Tryz.prog 135 = some ([.int .i64 0,.int .i64 0,.int .i64 0,.int .i64 0,.int .i64 0,.int .i64 0],[(0,1),(1,1),(2,1),(3,1),(4,1),(5,1)]):=by kernel_rfl
theorem st54:stTy Tryz.prog 54 = some ([.int .i64 0,.int .i64 0,.int .i64 0,.int .i64 0,.int .i64 0,.int .i64 0,.int .i64 0,.int .i64 0,.int .i64 0,.int .i64 0],[(0,1),(1,1),(2,1),(3,2),(5,1),(6,1),(7,1),(8,1),(9,1)]):=by kernel_rfl
instance ty150:TyC Tryz.prog 150 (1,false):={}
instance ty155:TyC Tryz.prog 155 (1,false):={}
instance ty157:TyC Tryz.prog 157 (1,false):={}
theorem drop1_walk (b:Bld) (w:World) {bw g0:Nat} {c0 c1 c2 c3 c5 c6 c7 c8 c9 c10 c11:Value} {n:Int} (h1:blk bw [.pointer (some ⟨g0,0,none⟩)] 157 (hpOf w)) (h2:blk g0 [c0,c1,c2,c3,.int .i64 n,c5,c6,c7,c8,c9,c10,c11] 159 (hpOf w)) {r:Bool} (H:(fun y0:Bld=>some (decide (y0.id = n))) b = some r):Calls Tryz.prog 192 #[.agg #[.int .i64 b.id,.int .i64 b.owner,.int .i64 b.x,.int .i64 b.y,.int .i64 b.w,.int .i64 b.h],.pointer (some ⟨bw,0,none⟩)] w fun e w'=>e = .returned (.bool r)∧Ext w w':=by
 obtain rfl:=sj H
 refine te Tryz.func192 (Sat.start w) ?_
 refine T.seq fun _ k1=>T.region (RS.solid (Sd.box (cs:=[_,_,_,_,_,_]) rfl rfl) rfl rfl fun b2=>rA rfl (RS.nil (k1 _ _ ?_)))
 refine T.seq fun _ k2=>dr mixed [0,1,1,0,0,0,1,0,0] ?_
 refine au 2 ?_
 refine dq rfl (Qt.ldX ty157.h rfl h1 (fun w s=>s.ext) rfl) (au 3 ?_)
 refine dq rfl (Qt.ldX ty3.h rfl h2 (fun w s=>s.ext) rfl) (au 2 ?_)
 refine RD.nil (k2 _ _ (kq [3] ?_))
 refine T.retTo (by with_reducible ((repeat (first | apply RetTo.seq | apply RetTo.blk)); exact RetTo.refl _)) (Cont.ret1 rfl rfl fun w' s=>?_)
 exact ⟨rfl,s.ext⟩
theorem apply_work_ask_walk {w0:World} {F:Ch} (g0:Nat) (gf:Nat) (vc:Value) (ac:Cmd) (a0_w:Wrk) (a1_id:Int) (hv:Rd (Sat w0 [F]) ac.units [vc]) {r:Unt × Int} (H:apply_work_ask ac a0_w a1_id = some r) (w:World) (s:Sat w0 [Wrk_ch g0 gf vc ac a0_w,F] w):Calls Tryz.prog 255 #[.pointer (some ⟨g0,0,none⟩),.int .i64 a1_id] w fun e w'=>e = .returned (.tuple #[.agg #[.int .i64 r.1.id,.int .i64 r.1.owner,.int .i64 r.1.kind,.int .i64 r.1.pos.x,.int .i64 r.1.pos.y,.int .i64 r.1.goal,.int .i64 r.1.next,.int .i64 r.1.stuck,.int .i64 r.1.inn,.int .i64 r.1.state],.int .i64 r.2])∧Sat w0 [Wrk_ch g0 gf vc ac a0_w,F] w':=by
 have hmv:=R_max (hv w (s.pc [1]))
 obtain ⟨pv,cv,rfl⟩:=R_form (hv w (s.pc [1]))
 unfold apply_work_ask at H
 refine te Tryz.func255 s ?_
 refine T.seq fun _ k1=>T.region (RS.solid (Sd.alloc zr54 rfl) rfl rfl fun b1=>rA rfl (RS.nil (k1 _ _ ?_)))
 refine T.seq fun _ k2=>T.region (au 2 ?_)
 refine RS.ex (fun w s=>Wrk_open 0 rfl s) ?_
 rintro gs2
 refine au 3 ?_
 refine RS.ex (fun w s=>Std_open 3 rfl s) ?_
 rintro ⟨qt3,qb4,qu5,va6,vb7,vc8,gc9⟩
 refine au 4 ?_
 obtain ⟨x10,hx10,H⟩:=bindE H
 refine rq (Qt.call (vs:=[_,_]) ent123 rfl fun w s=>army_At_walk a0_w.s.w.us a1_id w ((Rd.ofRowN 7 rfl) w s) hx10) (au 5 ?_)
 refine RS.nil (k2 _ _ (kq [0,4,6,7] ?_))
 refine T.seq fun _ k3=>au 3 ?_
 refine T.cB H rfl (fun _ H=>nomatch H) (fun hc11 H=>?_)
 refine T.skip (k3 _ _ (kq [0,4,6] ?_))
 refine T.seq fun _ k6=>nz ?_
 refine T.region (au 9 ?_)
 obtain ⟨g12,H⟩:=gdE H
 refine RS.know (p:=∃ g cap,qu5 = (some g,cap)) (fun w s=>(s.row_some (k:=7) rfl (pos_of g12))) ?_
 rintro ⟨gg13,cc14,rfl⟩
 refine rp (Pu.indexSl sl50.h rfl rfl g12) (rq (Qt.ldW (α:=Unt) (cs:=[_,_,_,_,_,_,_,_,_,_]) (Rd.ofRowN 7 rfl) ty54.h rfl rfl g12 rfl (by rintro _ _ rfl; rfl)) (RS.solid (Sd.alloc zr54 rfl) rfl rfl fun b15=>RS.solid (Sd.stB (cs':=[_,_,_,_,_,_,_,_,_,_]) 10 ty54.h rfl rfl rfl rfl rfl rfl rfl rfl) rfl rfl fun _=>RS.nil (k6 _ _ (kq [0,4,8] ?_))))
 refine T.seq fun _ k7=>T.block (T.seq fun _ k8=>nz ?_)
 refine dr mixed [0,1,0,0,0,0,1,0,0] ?_
 refine au 9 ?_
 refine RD.nil (k8 _ _ ?_)
 refine T.cP H rfl (fun _ H=>nomatch H) (fun hc16 H=>?_)
 refine kq [4,8] ?_
 refine au 5 ?_
 refine T.cP H rfl (fun _ H=>nomatch H) (fun hc17 H=>?_)
 refine T.skip (k7 _ _ (kq [4,8] ?_))
 refine au 4 ?_
 refine T.wk (fun w s=>((Sat.sP [0,1,2,4,10] [3,5,6,7,8,9] s (Std_shut (x:=a0_w.s) ⟨qt3,qb4,(some gg13,cc14),va6,vb7,vc8,gc9⟩))).pickP [1,2,3,0,4,5]) ?_
 refine T.wk (fun w s=>(Sat.sP [1,2,5] [0,3,4] s (Wrk_shut (x:=a0_w) gs2))) ?_
 obtain rfl:=sj H
 refine T.rt (Cont.retCT 2 rfl ty54.h rfl rfl rfl rfl fun w' s=>?_)
 exact ⟨rfl,s.pc [0,1]⟩
theorem work_all_walk {w0:World} {F:Ch} (g0:Nat) (gf:Nat) (vc:Value) (ac:Cmd) (a0_w:Wrk) (hv:Rd (Sat w0 [F]) ac.units [vc]) {r:List Unt × Int} (H:work_all ac a0_w = some r) (w:World) (s:Sat w0 [Wrk_ch g0 gf vc ac a0_w,F] w):Calls Tryz.prog 187 #[.pointer (some ⟨g0,0,none⟩),.nilFunc] w fun e w'=>∃ q1:(Option Nat × Nat),e = .returned (.tuple #[rowV q1 r.1.length,.int .i64 r.2])∧Sat w0 ([Wrk_ch g0 gf vc ac a0_w,F] ++ [row nilH 54 (rowV q1 r.1.length) r.1]) w':=by
 have hmv:=R_max (hv w (s.pc [1]))
 obtain ⟨pv,cv,rfl⟩:=R_form (hv w (s.pc [1]))
 unfold work_all at H
 refine te Tryz.func187 s ?_
 refine au 3 ?_
 refine T.seq fun _ k2=>T.seq fun _ k3=>T.region (au 2 ?_)
 refine RS.ex (fun w s=>Wrk_open 0 rfl s) ?_
 rintro gs1
 refine au 5 ?_
 refine RS.nil (k3 _ _ (kq [0,1,4,14,15,16] ?_))
 refine T.wk (fun w s=>(Sat.sP [1] [0,2,3] s (Wrk_shut (x:=a0_w) gs1))) ?_
 refine T.joinE (σ:=List Unt) (γ:=(Option Nat × Nat)) H Ex.go [] trivial (fun v3 q4=>[(4,rowV q4 v3.length)]) (fun v3 q4=>Sat w0 [Wrk_ch g0 gf (.slice pv ac.units.length cv) ac a0_w,F,row nilH 54 (rowV q4 v3.length) v3]) ?_ ?_
 ·rintro v3 q4 H
  try dsimp only [Ex.then] at H
  refine Cont.kq [4] ?_
  refine id (k2 _ _ ?_)
  refine au 4 ?_
  obtain rfl:=sj H
  refine T.rt (Cont.ret2 rfl rfl rfl fun w' s=>?_)
  exact ⟨q4,rfl,s.pc [0,1,2]⟩
 intro z2 hz2 HX2 hJ2
 refine T.block ?_
 refine T.loopA (γ:=(Option Nat × Nat)) hz2 [(0,_),(1,_),(14,_),(15,_)] (fun (l5,v7) q6=>[(4,rowV q6 l5.length),(16,.int .i64 v7)]) (fun (l5,v7) q6=>Sat w0 [Wrk_ch g0 gf (.slice pv ac.units.length cv) ac a0_w,F,row nilH 54 (rowV q6 l5.length) l5]) (none,0) sb sb (fun w s=>(s.nilRow (α:=Unt) 54).pick [0,1,2] (by decide) rfl) ?_
 rintro ⟨l5,v7⟩ q6 y8 H hd2 KL2 hL2
 try dsimp only [Ex.then] at H
 refine kq [4,16,0,1,14,15] ?_
 refine au 2 ?_
 refine T.seq fun _ k6=>?_
 refine T.cP H rfl (fun hc9 H=>?_) (fun hc9 H=>?_)
 ·refine T.skip (k6 _ _ ?_)
  refine T.seq fun _ k7=>T.block (T.seq fun _ k8=>T.region ?_)
  obtain ⟨g10,H⟩:=gdE H
  refine RS.know (p:=∃ bl ol,pv = some ⟨bl,ol,none⟩) (fun w s=>R_ptr (hv w (s.pc [1])) (ne_of_pos (pos_of g10))) ?_
  rintro ⟨bl11,ol12,rfl⟩
  refine rp (Pu.indexSl sl35.h rfl rfl g10) (rq (Qt.ld0 (α:=Int) (Rd.ofFrame 1 rfl hv) ty3.h rfl rfl g10 (by rintro _ _ rfl; rfl)) (rA rfl (RS.nil (k8 _ _ (kq [0,1,4,7,14,15,16] ?_)))))
  refine T.seq fun _ k9=>T.region (au 2 ?_)
  obtain ⟨x13,hx13,H⟩:=bindE H
  refine RS.solid (Sd.callF0 0 ent255 rfl rfl (fun w s=>apply_work_ask_walk g0 gf (.slice (some ⟨bl11,ol12,none⟩) ac.units.length cv) ac a0_w (gi ac.units v7) (Rd.rest 1 rfl (by decide) hv) hx13 w s)) rfl rfl fun _=>au 3 ?_
  refine RS.solid (Sd.alloc zr54 rfl) rfl rfl fun b14=>au 2 ?_
  refine RS.nil (k9 _ _ (kq [0,1,4,8,9,14,15,16] ?_))
  refine T.seq fun _ k10=>T.seq fun _ k11=>T.region (au 3 ?_)
  refine RS.joinV 3 31 (.bool (decide ((x13.2 = 0)∧(False)))) [(0,_),(1,_),(4,_),(8,_),(9,_),(14,_),(15,_),(16,_)] sb ?_ ?_
  ·refine RS.nil (k11 _ _ ?_)
   refine T.joinE (σ:=Int) (γ:=Unit) H (fun s=>s) [(0,_),(1,_),(4,_),(8,_),(14,_),(15,_),(16,_)] sb (fun v18 _=>[(9,.int .i64 v18)]) (fun v18 _=>Sat w0 [Wrk_ch g0 gf (.slice (some ⟨bl11,ol12,none⟩) ac.units.length cv) ac a0_w,F,row nilH 54 (rowV q6 l5.length) l5,blk b14 [.int .i64 x13.1.id,.int .i64 x13.1.owner,.int .i64 x13.1.kind,.int .i64 x13.1.pos.x,.int .i64 x13.1.pos.y,.int .i64 x13.1.goal,.int .i64 x13.1.next,.int .i64 x13.1.stuck,.int .i64 x13.1.inn,.int .i64 x13.1.state] 54]) ?_ ?_
   ·rintro v18 ⟨⟩ H
    try dsimp only [Ex.then] at H
    refine Cont.kq [9,0,1,4,8,14,15,16] ?_
    refine id (k10 _ _ ?_)
    refine T.seq fun _ k12=>au 3 ?_
    refine T.cP H rfl (fun _ H=>nomatch H) (fun hc19 H=>?_)
    refine T.skip (k12 _ _ (kq [0,1,4,8,14,15,16] ?_))
    refine T.region (au 2 ?_)
    refine RS.solid (Sd.litS (cs:=[_,_,_,_,_,_,_,_,_,_]) sl50.h zr54 rfl rfl rfl rfl rfl) rfl rfl fun b20=>?_
    obtain ⟨g22,H⟩:=gdE H
    refine RS.solid (Sd.app1c (α:=Unt) 2 4 x13.1 rfl rfl (nilH_lt _) sl50.h zr54 rfl rfl rfl rfl g22 (by decide)) rfl rfl fun q21=>rA rfl (RS.nil (k7 _ _ (kq [0,1,4,14,15,16] ?_)))
    refine T.region ?_
    obtain ⟨g23,H⟩:=gdE H
    refine rp (Pu.addS rfl rfl g23) (rM rfl (RS.nil ?_))
    refine id (hL2 _ _ ((l5 ++ [x13.1]),(v7 + 1)) q21 H sb sb (fun w s=>s.pc [0,1,2]))
   intro z17 H HX17 hJ17
   refine T.cP H rfl (fun _ H=>nomatch H) (fun hc24 H=>?_)
   obtain rfl:=sj H
   refine T.skip (hJ17 _ _ x13.2 () HX17 sb sb (fun w s=>s))
  intro hJ16
  refine RS.splitP 28 rfl (fun hc15=>?_) (fun hc15=>?_)
  ·refine rM rfl (rp (Pu.neqFuncNil fty289 rfl rfl) (rp (Pu.pickT rfl rfl) ?_))
   exact hJ16 _ _ ⟨dAndTF hc15,rfl,rfl,rfl,rfl,rfl,rfl,rfl,rfl,trivial⟩ (fun w s=>s)
  refine au 3 ?_
  exact hJ16 _ _ ⟨dAndF hc15,rfl,rfl,rfl,rfl,rfl,rfl,rfl,rfl,trivial⟩ (fun w s=>s)
 refine T.xt ?_
 obtain rfl:=hd2 _ H
 refine id (hJ2 _ _ l5 q6 HX2 trivial sb (fun w s=>s))
theorem work_about_walk {w0:World} {F:Ch} (g0:Nat) (gf:Nat) (vc:Value) (ac:Cmd) (a0_w:Wrk) (a1_k:Int) (a2_tile:Int) (a3_n:Int) (hv:Rd (Sat w0 [F]) ac.units [vc]) {r:List Int × Wrk} (H:work_about ac a0_w a1_k a2_tile a3_n = some r) (w:World) (s:Sat w0 [Wrk_ch g0 gf vc ac a0_w,F] w):Calls Tryz.prog 188 #[.pointer (some ⟨g0,0,none⟩),.int .i64 a1_k,.int .i64 a2_tile,.int .i64 a3_n] w fun e w'=>∃ q1:(Option Nat × Nat),e = .returned (rowV q1 r.1.length)∧Sat w0 ([Wrk_ch g0 gf vc ac r.2,F] ++ [row nilH 3 (rowV q1 r.1.length) r.1]) w':=by
 have hmv:=R_max (hv w (s.pc [1]))
 obtain ⟨pv,cv,rfl⟩:=R_form (hv w (s.pc [1]))
 unfold work_about at H
 refine te Tryz.func188 s ?_
 refine au 2 ?_
 refine T.seq fun _ k2=>T.region (rM rfl ?_)
 obtain ⟨x1,hx1,H⟩:=bindE H
 refine rq (Qt.call (vs:=[_]) ent118 rfl fun w s=>kind_What_walk a1_k w  hx1) (RS.solid (Sd.alloc zr73 rfl) rfl rfl fun b2=>RS.solid (Sd.stB (cs':=[_,_,_,_,_]) 2 ty73.h rfl rfl rfl rfl rfl rfl rfl rfl) rfl rfl fun _=>RS.nil (k2 _ _ (kq [0,2,3,9] ?_)))
 refine T.seq fun _ k3=>?_
 refine T.ex (fun w s=>Wrk_open 0 rfl s) ?_
 rintro gs3
 refine nz ?_
 refine T.ex (fun w s=>Std_open 3 rfl s) ?_
 rintro ⟨qt4,qb5,qu6,va7,vb8,vc9,gc10⟩
 refine nz ?_
 refine T.drawnS [0,1,2,3,5,6,7,8,9] [(0,.pu),(1,.pu),(2,.pu),(3,.wk),(4,.pu),(5,.pu),(6,.pu),(7,.wk),(8,.pu),(9,.pu),(10,.pu),(11,.rd),(12,.pu),(13,.pu),(14,.pu),(15,.wk),(16,.pu),(17,.pu),(18,.pu),(19,.rd),(20,.pu),(21,.pu),(22,.pu),(23,.wk),(24,.pu),(25,.pu),(26,.pu),(27,.rd),(28,.pu),(29,.rd),(30,.pu),(31,.rd),(36,.pu),(37,.wk),(38,.pu),(39,.pu),(32,.br),(33,.pu),(34,.pu),(35,.rd),(40,.so),(41,.pu)] mixed (by kernel_rfl) rfl ?_
 refine au 36 ?_
 obtain ⟨x11,hx11,H⟩:=bindE H
 refine RD.solid rfl (.inr rfl) rfl rfl (Sd.callX (vs:=[_,_,_,_,_]) 4 (fun a w kn=>run_mth ent40 rfl rfl a w kn) rfl (fun w s=>fields_NetO gf a0_w.f a0_w.s.w.g a0_w.s.w.bs x1.cls x1.size (Rd.rest 5 rfl (by decide) (Rd.ofRowN 0 rfl)) (Rd.rest 6 rfl (by decide) (Rd.ofRowN 0 rfl)) hx11 w s)) (fun _=>ClE.sat _ _) (fun _ w s=>s.pc [0,1,2,3,5,6,7,8,9]) (fun h=>nomatch h) fun ⟨⟨hA12,nb13⟩,hn14⟩=>?_
 obtain ⟨v17,v18,hb19,ht20,hf21⟩:=hn14
 obtain ⟨p15,cc16,rfl⟩:=R_form hf21
 refine au 2 ?_
 refine RD.q (fun w s=>s.pc [0,1,2,3,5,6,7,8,9]) rfl (Qt.ldFz 10 rfl ty41.h rfl hb19 rfl) rfl rfl ?_
 obtain ⟨x22,hx22,H⟩:=bindE H
 refine RD.solid rfl (.inl rfl) rfl rfl (Sd.callN (vs:=[_,_,_,_,_]) ent256 rfl (fun w s=>slots_About_walk a0_w.s.w.g x11.1.free x1.size a2_tile a3_n w ((Rd.ofRowN 5 rfl) w s) ((Rd.ofFz 10 rfl hf21) w s) hx22)) (fun _=>ClE.sat _ _) (fun _ w s=>s.pc [0,1,2,3,5,6,7,8,9]) (fun _ _ _ s=>s.drop1) fun q23=>?_
 refine RD.p (fun w s=>s.pc [0,1,2,3,5,6,7,8,9]) rfl (Pu.assign rfl) rfl rfl (RD.nil (k3 _ _ (kq [8] ?_)))
 refine T.wk (fun w s=>((Sat.sP [0,1,2,4,10,11] [3,5,6,7,8,9] s (Std_shut (x:=a0_w.s) ⟨qt4,qb5,qu6,va7,vb8,vc9,gc10⟩))).pickP [1,2,3,0,4,5,6]) ?_
 refine T.wk (fun w s=>((Sat.sP [0,1,2,3,6] [4,5] s (FldO_shut hA12))).pickP [1,2,3,4,0,5]) ?_
 refine T.wk (fun w s=>(Sat.sP [1,2,5] [0,3,4] s (Wrk_shut (x:=(⟨a0_w.s,x11.2⟩:Wrk)) gs3))) ?_
 obtain rfl:=sj H
 refine T.rt (Cont.ret1 rfl rfl fun w' s=>?_)
 exact ⟨q23,rfl,s.pc [0,1,3]⟩
theorem apply_work_spawn_walk {w0:World} {F:Ch} (g0:Nat) (gf:Nat) (vc:Value) (ac:Cmd) (a0_w:Wrk) (hv:Rd (Sat w0 [F]) ac.units [vc]) {r:Int × Wrk} (H:apply_work_spawn ac a0_w = some r) (w:World) (s:Sat w0 [Wrk_ch g0 gf vc ac a0_w,F] w):Calls Tryz.prog 126 #[.pointer (some ⟨g0,0,none⟩)] w fun e w'=>e = .returned (.int .i64 r.1)∧Sat w0 [Wrk_ch g0 gf vc ac r.2,F] w':=by
 have hmv:=R_max (hv w (s.pc [1]))
 obtain ⟨pv,cv,rfl⟩:=R_form (hv w (s.pc [1]))
 unfold apply_work_spawn at H
 refine te Tryz.func126 s ?_
 refine au 2 ?_
 refine T.seq fun _ k2=>T.block (T.seq fun _ k3=>T.region (au 2 ?_))
 refine RS.ex (fun w s=>Wrk_open 0 rfl s) ?_
 rintro gs1
 refine au 3 ?_
 refine RS.ex (fun w s=>Std_open 2 rfl s) ?_
 rintro ⟨qt2,qb3,qu4,va5,vb6,vc7,gc8⟩
 refine au 6 ?_
 refine RS.joinV 10 24 (.bool (decide (((a0_w.s.w.us.length:Int) = 4096) ∨ (a0_w.s.w.nextid = 1099511627776)))) [(0,_)] sb ?_ ?_
 ·refine rA rfl (RS.nil (k3 _ _ ?_))
  refine T.cP H rfl (fun _ H=>nomatch H) (fun hc11 H=>?_)
  refine T.seq fun _ k5=>?_
  refine T.wk (fun w s=>((Sat.sP [0,1,3] [2,4,5,6,7,8] s (Std_shut (x:=a0_w.s) ⟨qt2,qb3,qu4,va5,vb6,vc7,gc8⟩))).pickP [1,2,0,3]) ?_
  refine dr mixed [0,0,0,1,0,0,0,0,1,0,0,0,0,1,4,0,0] ?_
  refine au 14 ?_
  obtain ⟨x12,hx12,H⟩:=bindE H
  refine RD.solid rfl (.inr rfl) rfl rfl (Sd.callF0 2 ent72 rfl rfl (fun w s=>army_Place_walk gs1 a0_w.s 0 ac.n ac.pos  hx12 w s)) (fun _=>ClE.sat _ _) (fun _ _ _=>trivial) (fun h=>nomatch h) fun _=>?_
  refine au 2 ?_
  refine RD.nil (k5 _ _ ?_)
  refine T.cB H rfl (fun _ H=>nomatch H) (fun hc13 H=>?_)
  refine T.skip (k2 _ _ (kq [0] ?_))
  refine T.seq fun _ k7=>?_
  refine T.ex (fun w s=>Std_open 2 rfl s) ?_
  rintro ⟨qt14,qb15,qu16,va17,vb18,vc19,gc20⟩
  refine nz ?_
  refine drS mixed [0,1,3,4,5,7,8] [0,0,0,2,0,0,0,1,0,0,0,1,0,0,0,1,0,0,0,1,0,0,0,0,1,0,0,0,0,1,0,0,0,0,1,0,1,3,4,0,0,0,4] ?_
  refine au 35 ?_
  refine RD.p (fun w s=>s.pc [0,1,3,4,5,7,8]) rfl (Pu.build (cells:=[_,_,_,_,_,_,_,_,_,_]) st54 rfl rfl) rfl rfl ?_
  obtain ⟨x21,hx21,H⟩:=bindE H
  refine RD.q (fun w s=>s.pc [0,1,3,4,5,7,8]) rfl (Qt.call (vs:=[_]) ent186 rfl fun w s=>apply_rest_walk (⟨x12.2.w.nextid,ac.player,ac.n,ac.pos,0,0,0,0,0⟩:Unt) w  hx21) rfl rfl (RD.solid rfl (.inl rfl) rfl rfl (Sd.litS (cs:=[_,_,_,_,_,_,_,_,_,_]) sl50.h zr54 rfl rfl rfl rfl rfl) (fun _=>ClE.sat _ _) (fun _ w s=>s.pc [0,1,3,4,5,7,8]) (fun _ _ _ s=>s.drop1) fun b22=>?_)
  obtain ⟨g24,H⟩:=gdE H
  refine RD.solid rfl (.inr rfl) rfl rfl (Sd.app1c (α:=Unt) 6 9 x21 rfl rfl (nilH_lt _) sl50.h zr54 rfl rfl rfl rfl g24 (by decide)) (fun _=>ClE.sat _ _) (fun _ w s=>s.pc [0,1,3,4,5,7,8]) (fun h=>nomatch h) fun q23=>?_
  refine au 4 ?_
  refine RD.nil (k7 _ _ (kq [0] ?_))
  refine T.seq fun _ k8=>nz ?_
  refine T.region (au 8 ?_)
  obtain ⟨g25,H⟩:=gdE H
  refine rp (Pu.addS rfl rfl g25) (au 4 ?_)
  refine RS.nil (k8 _ _ (kq [] ?_))
  refine au 2 ?_
  refine T.wk (fun w s=>((Sat.sP [0,1,3,9] [2,4,5,6,7,8] s (Std_shut (x:=(⟨(⟨x12.2.w.tick,x12.2.w.players,(x12.2.w.nextid + 1),x12.2.w.g,x12.2.w.bs,(x12.2.w.us ++ [x21])⟩:Wld),x12.2.op,x12.2.cs⟩:Std)) ⟨qt14,qb15,q23,va17,vb18,vc19,gc20⟩))).pickP [1,2,0,3,4]) ?_
  refine T.wk (fun w s=>(Sat.sP [1,4] [0,2,3] s (Wrk_shut (x:=(⟨(⟨(⟨x12.2.w.tick,x12.2.w.players,(x12.2.w.nextid + 1),x12.2.w.g,x12.2.w.bs,(x12.2.w.us ++ [x21])⟩:Wld),x12.2.op,x12.2.cs⟩:Std),a0_w.f⟩:Wrk)) gs1))) ?_
  obtain rfl:=sj H
  refine T.rt (Cont.ret1 rfl rfl fun w' s=>?_)
  exact ⟨rfl,s.pc [0,1]⟩
 intro hJ10
 refine RS.splitP 14 rfl (fun hc9=>?_) (fun hc9=>?_)
 ·refine au 10 ?_
  exact hJ10 _ _ ⟨dOrT hc9,rfl,trivial⟩ (fun w s=>s)
 refine au 10 ?_
 exact hJ10 _ _ ⟨dOrF hc9,rfl,trivial⟩ (fun w s=>s)
theorem apply_work_meets_walk {w0:World} {F:Ch} (g0:Nat) (gf:Nat) (vc:Value) (ac:Cmd) (a0_w:Wrk) (a1_b:Bld) (hv:Rd (Sat w0 [F]) ac.units [vc]) {r:Bool × Wrk} (H:apply_work_meets ac a0_w a1_b = some r) (w:World) (s:Sat w0 [Wrk_ch g0 gf vc ac a0_w,F] w):Calls Tryz.prog 191 #[.pointer (some ⟨g0,0,none⟩),.agg #[.int .i64 a1_b.id,.int .i64 a1_b.owner,.int .i64 a1_b.x,.int .i64 a1_b.y,.int .i64 a1_b.w,.int .i64 a1_b.h]] w fun e w'=>e = .returned (.bool r.1)∧Sat w0 [Wrk_ch g0 gf vc ac r.2,F] w':=by
 have hmv:=R_max (hv w (s.pc [1]))
 obtain ⟨pv,cv,rfl⟩:=R_form (hv w (s.pc [1]))
 unfold apply_work_meets at H
 refine te Tryz.func191 s ?_
 refine T.seq fun _ k1=>T.region (RS.solid (Sd.box (cs:=[_,_,_,_,_,_]) rfl rfl) rfl rfl fun b1=>rA rfl (RS.nil (k1 _ _ ?_)))
 refine T.seq fun _ k2=>T.seq fun _ k3=>?_
 refine T.ex (fun w s=>Wrk_open 0 rfl s) ?_
 rintro gs2
 refine nz ?_
 refine T.ex (fun w s=>Std_open 3 rfl s) ?_
 rintro ⟨qt3,qb4,qu5,va6,vb7,vc8,gc9⟩
 refine nz ?_
 refine T.drawn (fun _=>True) [(0,.pu),(1,.pu),(2,.pu),(3,.rd),(4,.pu),(5,.pu),(6,.pu),(7,.rd),(8,.rd),(11,.pu),(9,.so),(10,.pu)] mixed (ClE.sat _ _) (by kernel_rfl) ?_
 refine au 10 ?_
 obtain ⟨x10,hx10,H⟩:=bindE H
 refine RD.solid rfl (.inl rfl) rfl rfl (Sd.callN (vs:=[_,_]) ent168 rfl (fun w s=>build_Tiles_walk a0_w.s.w.g a1_b w ((Rd.ofRowN 5 rfl) w s) hx10)) (fun _=>ClE.sat _ _) (fun _ _ _=>trivial) (fun _ _ _ s=>s.drop1) fun q11=>?_
 refine dp rfl (Pu.lenSl sl35.h rfl) (RD.nil (k3 _ _ (kq [0,18,19,20] ?_)))
 refine T.wk (fun w s=>((Sat.sP [0,1,2,4,10] [3,5,6,7,8,9] s (Std_shut (x:=a0_w.s) ⟨qt3,qb4,qu5,va6,vb7,vc8,gc9⟩))).pickP [1,2,3,0,4,5]) ?_
 refine T.wk (fun w s=>(Sat.sP [1,2,5] [0,3,4] s (Wrk_shut (x:=a0_w) gs2))) ?_
 refine T.joinE (σ:=Unit) (γ:=Unit) H Ex.go [] trivial (fun _ _=>[]) (fun _ _=>Sat w0 [Wrk_ch g0 gf (.slice pv ac.units.length cv) ac a0_w,F,blk b1 [.int .i64 a1_b.id,.int .i64 a1_b.owner,.int .i64 a1_b.x,.int .i64 a1_b.y,.int .i64 a1_b.w,.int .i64 a1_b.h] 135,row nilH 3 (rowV q11 x10.length) x10]) ?_ ?_
 ·rintro ⟨⟩ ⟨⟩ H
  try dsimp only [Ex.then] at H
  refine Cont.kq [] ?_
  refine id (k2 _ _ ?_)
  refine au 2 ?_
  obtain rfl:=sj H
  refine T.rt (Cont.ret1 rfl rfl fun w' s=>?_)
  exact ⟨rfl,s.pc [0,1]⟩
 intro z12 hz12 HX12 hJ12
 refine T.block ?_
 refine T.loopA (γ:=Unit) hz12 [(0,_),(18,_),(19,_)] (fun v13 _=>[(20,.int .i64 v13)]) (fun v13 _=>Sat w0 [Wrk_ch g0 gf (.slice pv ac.units.length cv) ac a0_w,F,blk b1 [.int .i64 a1_b.id,.int .i64 a1_b.owner,.int .i64 a1_b.x,.int .i64 a1_b.y,.int .i64 a1_b.w,.int .i64 a1_b.h] 135,row nilH 3 (rowV q11 x10.length) x10]) () sb sb (fun w s=>s) ?_
 rintro v13 ⟨⟩ y14 H hd12 KL12 hL12
 try dsimp only [Ex.then] at H
 refine kq [20,0,18,19] ?_
 refine au 2 ?_
 refine T.seq fun _ k6=>?_
 refine T.cP H rfl (fun hc15 H=>?_) (fun hc15 H=>?_)
 ·refine T.skip (k6 _ _ ?_)
  refine T.seq fun _ k7=>T.block (T.seq fun _ k8=>T.region ?_)
  obtain ⟨g16,H⟩:=gdE H
  refine RS.know (p:=∃ g cap,q11 = (some g,cap)) (fun w s=>(s.row_some (k:=3) rfl (pos_of g16))) ?_
  rintro ⟨gg17,cc18,rfl⟩
  refine rp (Pu.indexSl sl35.h rfl rfl g16) (rq (Qt.ld0 (α:=Int) (Rd.ofRowN 3 rfl) ty3.h rfl rfl g16 (by rintro _ _ rfl; rfl)) (rA rfl (RS.nil (k8 _ _ (kq [0,6,18,19,20] ?_)))))
  refine T.seq fun _ k9=>?_
  refine T.ex (fun w s=>Wrk_open 0 rfl s) ?_
  rintro gs19
  refine nz ?_
  refine T.ex (fun w s=>Std_open 4 rfl s) ?_
  rintro ⟨qt20,qb21,qu22,va23,vb24,vc25,gc26⟩
  refine nz ?_
  refine T.drawn (fun _=>True) [(0,.pu),(1,.pu),(2,.pu),(3,.rd),(4,.pu),(5,.pu),(6,.pu),(7,.rd),(8,.pu),(9,.pu),(10,.pu),(11,.rd),(12,.pu),(13,.rd),(16,.pu),(14,.br),(15,.pu)] mixed (ClE.sat _ _) (by kernel_rfl) ?_
  refine au 13 ?_
  obtain ⟨x27,hx27,H⟩:=bindE H
  refine dq rfl (Qt.call (vs:=[_,_]) ent198 rfl fun w s=>ground_Mid_fwalk a0_w.s.w.g (gi x10 v13) w  hx27) (dp rfl (Pu.move rfl) ?_)
  obtain ⟨x28,hx28,H⟩:=bindE H
  refine RD.solid rfl (.inr rfl) rfl rfl (Sd.postE (S2:=fun (qr:Option Nat × Nat) (q:(Option Nat × Nat) × (Option Nat × Nat) × (Option Nat × Nat) × Value × Value × Value × Nat)=>Sat w0 [blk g0 [.pointer (some ⟨gs19,0,none⟩),.int .i64 ac.player,.int .i64 ac.seq,.int .i64 ac.kind,.int .i64 ac.n,.slice pv ac.units.length cv,.int .i64 ac.tile,.int .i64 ac.w,.int .i64 ac.h,.int .i64 ac.pos.x,.int .i64 ac.pos.y,.func (.func 40) #[.pointer (some ⟨gf,0,none⟩)] #[]] 159,F,blk b1 [.int .i64 a1_b.id,.int .i64 a1_b.owner,.int .i64 a1_b.x,.int .i64 a1_b.y,.int .i64 a1_b.w,.int .i64 a1_b.h] 135,row nilH 3 (rowV (some gg17,cc18) x10.length) x10,blk gs19 [.int .i64 a0_w.s.w.tick,.int .i64 a0_w.s.w.players,.int .i64 a0_w.s.w.nextid,.int .i64 a0_w.s.w.g.w,.int .i64 a0_w.s.w.g.h,rowV q.1 a0_w.s.w.g.tiles.length,rowV q.2.1 a0_w.s.w.bs.length,rowV q.2.2.1 a0_w.s.w.us.length,q.2.2.2.1,q.2.2.2.2.1,q.2.2.2.2.2.1,.pointer (some ⟨q.2.2.2.2.2.2,0,none⟩)] 164,Fld_ch gf a0_w.f,row nilH 5 (rowV q.1 a0_w.s.w.g.tiles.length) a0_w.s.w.g.tiles,row nilH 135 (rowV q.2.1 a0_w.s.w.bs.length) a0_w.s.w.bs,row nilH 54 (rowV q.2.2.1 a0_w.s.w.us.length) a0_w.s.w.us,opn 4 q.2.2.2.1 q.2.2.2.2.1 q.2.2.2.2.2.1 a0_w.s.op,Cells_ch q.2.2.2.2.2.2 a0_w.s.cs,row nilH 54 (rowV qr x28.length) x28]) (Sd.pre (S0:=Sat w0 [blk g0 [.pointer (some ⟨gs19,0,none⟩),.int .i64 ac.player,.int .i64 ac.seq,.int .i64 ac.kind,.int .i64 ac.n,.slice pv ac.units.length cv,.int .i64 ac.tile,.int .i64 ac.w,.int .i64 ac.h,.int .i64 ac.pos.x,.int .i64 ac.pos.y,.func (.func 40) #[.pointer (some ⟨gf,0,none⟩)] #[]] 159,F,blk b1 [.int .i64 a1_b.id,.int .i64 a1_b.owner,.int .i64 a1_b.x,.int .i64 a1_b.y,.int .i64 a1_b.w,.int .i64 a1_b.h] 135,row nilH 3 (rowV (some gg17,cc18) x10.length) x10,Std_ch gs19 a0_w.s,Fld_ch gf a0_w.f]) (fun w s=>((Sat.sP [0,1,2,3,5] [4,6,7,8,9,10] s (Std_shut (x:=a0_w.s) ⟨qt20,qb21,qu22,va23,vb24,vc25,gc26⟩))).pickP [1,2,3,4,0,5]) (Sd.callF 4 ent121 rfl rfl (fun w s=>army_Near_walk gs19 a0_w.s x27 65536  hx28 w s))) (fun _ w s=>let ⟨j,s⟩:=Std_open 4 rfl s; ⟨j,(s).pick [0,1,2,3,4,5,7,8,9,10,11,6] (by decide) rfl⟩)) (fun _=>ClE.sat _ _) (fun _ _ _=>trivial) (fun h=>nomatch h) fun ⟨q29,⟨qt30,qb31,qu32,va33,vb34,vc35,gc36⟩⟩=>?_
  refine dp rfl (Pu.lenSl sl50.h rfl) (RD.nil (k9 _ _ (kq [0,6,18,19,20,38,39,40] ?_)))
  refine T.wk (fun w s=>((Sat.sP [0,1,2,3,5,11] [4,6,7,8,9,10] s (Std_shut (x:=a0_w.s) ⟨qt30,qb31,qu32,va33,vb34,vc35,gc36⟩))).pickP [1,2,3,4,0,5,6]) ?_
  refine T.wk (fun w s=>(Sat.sP [1,2,3,6] [0,4,5] s (Wrk_shut (x:=a0_w) gs19))) ?_
  refine T.joinE (σ:=Unit) (γ:=Unit) H Ex.go [(0,_),(18,_),(19,_),(20,_)] sb (fun _ _=>[]) (fun _ _=>Sat w0 [Wrk_ch g0 gf (.slice pv ac.units.length cv) ac a0_w,F,blk b1 [.int .i64 a1_b.id,.int .i64 a1_b.owner,.int .i64 a1_b.x,.int .i64 a1_b.y,.int .i64 a1_b.w,.int .i64 a1_b.h] 135,row nilH 3 (rowV (some gg17,cc18) x10.length) x10,row nilH 54 (rowV q29 x28.length) x28]) ?_ ?_
  ·rintro ⟨⟩ ⟨⟩ H
   try dsimp only [Ex.then] at H
   refine Cont.kq [0,18,19,20] ?_
   refine id (k7 _ _ ?_)
   refine T.region ?_
   obtain ⟨g38,H⟩:=gdE H
   refine rp (Pu.addS rfl rfl g38) (rM rfl (RS.nil ?_))
   refine id (hL12 _ _ (v13 + 1) () H sb sb (fun w s=>s.pc [0,1,2,3]))
  intro z37 hz37 HX37 hJ37
  refine T.block ?_
  refine T.loopA (γ:=Unit) hz37 [(0,_),(6,_),(18,_),(19,_),(20,_),(38,_),(39,_)] (fun v39 _=>[(40,.int .i64 v39)]) (fun v39 _=>Sat w0 [Wrk_ch g0 gf (.slice pv ac.units.length cv) ac a0_w,F,blk b1 [.int .i64 a1_b.id,.int .i64 a1_b.owner,.int .i64 a1_b.x,.int .i64 a1_b.y,.int .i64 a1_b.w,.int .i64 a1_b.h] 135,row nilH 3 (rowV (some gg17,cc18) x10.length) x10,row nilH 54 (rowV q29 x28.length) x28]) () sb sb (fun w s=>s) ?_
  rintro v39 ⟨⟩ y40 H hd37 KL37 hL37
  try dsimp only [Ex.then] at H
  refine kq [40,0,6,18,19,20,38,39] ?_
  refine au 2 ?_
  refine T.seq fun _ k11=>?_
  refine T.cP H rfl (fun hc41 H=>?_) (fun hc41 H=>?_)
  ·refine T.skip (k11 _ _ ?_)
   refine T.seq fun _ k12=>T.block (T.seq fun _ k13=>T.region ?_)
   obtain ⟨g42,H⟩:=gdE H
   refine RS.know (p:=∃ g cap,q29 = (some g,cap)) (fun w s=>(s.row_some (k:=4) rfl (pos_of g42))) ?_
   rintro ⟨gg43,cc44,rfl⟩
   refine rp (Pu.indexSl sl50.h rfl rfl g42) (rq (Qt.ldW (α:=Unt) (cs:=[_,_,_,_,_,_,_,_,_,_]) (Rd.ofRowN 4 rfl) ty54.h rfl rfl g42 rfl (by rintro _ _ rfl; rfl)) (RS.solid (Sd.alloc zr54 rfl) rfl rfl fun b45=>RS.solid (Sd.stB (cs':=[_,_,_,_,_,_,_,_,_,_]) 5 ty54.h rfl rfl rfl rfl rfl rfl rfl rfl) rfl rfl fun _=>RS.nil (k13 _ _ (kq [0,6,8,18,19,20,38,39,40] ?_))))
   refine T.seq fun _ k14=>?_
   refine T.ex (fun w s=>Wrk_open 0 rfl s) ?_
   rintro gs46
   refine nz ?_
   refine T.ex (fun w s=>Std_open 6 rfl s) ?_
   rintro ⟨qt47,qb48,qu49,va50,vb51,vc52,gc53⟩
   refine nz ?_
   refine dr mixed [0,0,0,1,0,0,0,1,0,0,1,0,1,1,0,1] ?_
   refine au 13 ?_
   obtain ⟨x54,hx54,H⟩:=bindE H
   refine dq rfl (Qt.call (vs:=[_]) ent118 rfl fun w s=>kind_What_walk ((gi x28 v39).kind) w  hx54) (dp rfl (Pu.fieldS (cs:=[_,_,_,_,_]) fld73_0 ty2.h rfl rfl) ?_)
   obtain ⟨x55,hx55,H⟩:=bindE H
   refine dq rfl (Qt.call (vs:=[_,_,_,_]) ent176 rfl fun w s=>disc_Hits_fwalk a0_w.s.w.g (gi x10 v13) ((gi x28 v39).pos) x54.radius w  hx55) (RD.nil (k14 _ _ ?_))
   refine T.cB H rfl (fun _ H=>nomatch H) (fun hc56 H=>?_)
   refine T.skip (k12 _ _ (kq [0,6,18,19,20,38,39,40] ?_))
   refine nz ?_
   refine T.region ?_
   obtain ⟨g57,H⟩:=gdE H
   refine rp (Pu.addS rfl rfl g57) (rM rfl (RS.nil ?_))
   refine Cont.wk (fun w s=>((Sat.sP [0,1,2,3,4,5,7] [6,8,9,10,11,12] s (Std_shut (x:=a0_w.s) ⟨qt47,qb48,qu49,va50,vb51,vc52,gc53⟩))).pickP [1,2,3,4,5,6,0,7]) ?_
   refine Cont.wk (fun w s=>(Sat.sP [1,2,3,4,5] [0,6,7] s (Wrk_shut (x:=a0_w) gs46))) ?_
   refine id (hL37 _ _ (v39 + 1) () H sb sb (fun w s=>s.pc [0,1,2,3,4]))
  refine T.xt ?_
  obtain rfl:=hd37 _ H
  refine id (hJ37 _ _ () () HX37 sb trivial (fun w s=>s))
 refine T.xt ?_
 obtain rfl:=hd12 _ H
 refine id (hJ12 _ _ () () HX12 trivial trivial (fun w s=>s))
theorem apply_work_build_walk {w0:World} {F:Ch} (g0:Nat) (gf:Nat) (vc:Value) (ac:Cmd) (a0_w:Wrk) (hv:Rd (Sat w0 [F]) ac.units [vc]) {r:Int × Wrk} (H:apply_work_build ac a0_w = some r) (w:World) (s:Sat w0 [Wrk_ch g0 gf vc ac a0_w,F] w):Calls Tryz.prog 129 #[.pointer (some ⟨g0,0,none⟩)] w fun e w'=>e = .returned (.int .i64 r.1)∧Sat w0 [Wrk_ch g0 gf vc ac r.2,F] w':=by
 have hmv:=R_max (hv w (s.pc [1]))
 obtain ⟨pv,cv,rfl⟩:=R_form (hv w (s.pc [1]))
 unfold apply_work_build at H
 refine te Tryz.func129 s ?_
 refine au 2 ?_
 refine T.seq fun _ k2=>T.region (au 2 ?_)
 refine RS.ex (fun w s=>Wrk_open 0 rfl s) ?_
 rintro gs1
 refine au 3 ?_
 refine RS.ex (fun w s=>Std_open 2 rfl s) ?_
 rintro ⟨qt2,qb3,qu4,va5,vb6,vc7,gc8⟩
 refine au 3 ?_
 refine RS.solid (Sd.alloc zr24 rfl) rfl rfl fun b9=>RS.solid (Sd.stB (cs':=[_,_,_]) 9 ty24.h rfl rfl rfl rfl rfl rfl rfl rfl) rfl rfl fun _=>RS.nil (k2 _ _ (kq [0,3] ?_))
 refine T.seq fun _ k3=>T.block (T.seq fun _ k4=>nz ?_)
 refine dr mixed [1,0,0,0,0,1,1,0,0] ?_
 refine au 6 ?_
 obtain ⟨x10,hx10,H⟩:=bindE H
 refine dq rfl (Qt.call (vs:=[_,_]) ent170 rfl fun w s=>ground_Is_fwalk a0_w.s.w.g ac.tile w  hx10) (au 2 ?_)
 refine RD.nil (k4 _ _ ?_)
 refine T.cB H rfl (fun _ H=>nomatch H) (fun hc11 H=>?_)
 refine kq [0,3] ?_
 refine au 11 ?_
 refine T.cP H rfl (fun _ H=>nomatch H) (fun hc12 H=>?_)
 refine T.skip (k3 _ _ (kq [0,3] ?_))
 refine T.seq fun _ k8=>nz ?_
 refine dr mixed [0,0,0,1,0,0,0,1,0,0,0,0,1,0,0,0,0,1,0,1,0,0,0,0,0,1,0,1,0,0,0,0,0,1,0,0,0,0,1,0,3,4] ?_
 refine au 20 ?_
 obtain ⟨g13,H⟩:=gdE H
 refine dp rfl (Pu.remN rfl rfl (and3 g13)) (au 7 ?_)
 obtain ⟨g14,H⟩:=gdE H
 refine dp rfl (Pu.quoN rfl rfl g14) (au 10 ?_)
 refine dp rfl (Pu.build (cells:=[_,_,_,_,_,_]) st135 rfl rfl) (RD.solid rfl (.inl rfl) rfl rfl (Sd.alloc zr135 rfl) (fun _=>ClE.sat _ _) (fun _ _ _=>trivial) (fun _ _ _ s=>s.drop1) fun b15=>?_)
 refine RD.solid rfl (.inr rfl) rfl rfl (Sd.stB (cs':=[_,_,_,_,_,_]) 10 ty135.h rfl rfl rfl rfl rfl rfl rfl rfl) (fun _=>ClE.sat _ _) (fun _ _ _=>trivial) (fun h=>nomatch h) fun _=>?_
 refine RD.nil (k8 _ _ (kq [0,3,4] ?_))
 refine T.seq fun _ k9=>nz ?_
 refine dr mixed [1,0,0,0,1,0,0,0,1,1,3,0,0,0,0,0] ?_
 refine au 10 ?_
 obtain ⟨x16,hx16,H⟩:=bindE H
 refine RD.solid rfl (.inl rfl) rfl rfl (Sd.callN (vs:=[_,_,_]) ent190 rfl (fun w s=>build_Put_walk a0_w.s.w.g a0_w.s.w.bs (⟨a0_w.s.w.nextid,ac.player,(ac.tile % a0_w.s.w.g.w),(ac.tile / a0_w.s.w.g.w),ac.w,ac.h⟩:Bld) w ((Rd.ofRowN 4 rfl) w s) ((Rd.ofRowN 5 rfl) w s) hx16)) (fun _=>ClE.sat _ _) (fun _ _ _=>trivial) (fun _ _ _ s=>s.drop1) fun q17=>?_
 refine au 5 ?_
 refine RD.nil (k9 _ _ (kq [0,4,5,6] ?_))
 refine T.seq fun _ k10=>T.block (au 4 ?_)
 refine T.cP H rfl (fun _ H=>nomatch H) (fun hc18 H=>?_)
 refine kq [0,4,5] ?_
 refine T.seq fun _ k13=>nz ?_
 refine T.region (au 2 ?_)
 refine RS.wk (fun w s=>((Sat.sP [0,1,3,9,10,11] [2,4,5,6,7,8] s (Std_shut (x:=a0_w.s) ⟨qt2,qb3,qu4,va5,vb6,vc7,gc8⟩))).pickP [1,2,0,3,4,5,6]) ?_
 refine RS.wk (fun w s=>(Sat.sP [1,4,5,6] [0,2,3] s (Wrk_shut (x:=a0_w) gs1))) ?_
 obtain ⟨x19,hx19,H⟩:=bindE H
 refine RS.solid (Sd.callF0 0 ent191 rfl rfl (fun w s=>apply_work_meets_walk g0 gf (.slice pv ac.units.length cv) ac a0_w (⟨a0_w.s.w.nextid,ac.player,(ac.tile % a0_w.s.w.g.w),(ac.tile / a0_w.s.w.g.w),ac.w,ac.h⟩:Bld) (Rd.rest 1 rfl (by decide) hv) hx19 w s)) rfl rfl fun _=>rA rfl (RS.nil (k13 _ _ ?_))
 refine T.cB H rfl (fun _ H=>nomatch H) (fun hc20 H=>?_)
 refine T.skip (k10 _ _ (kq [0,5] ?_))
 refine T.seq fun _ k15=>T.region (au 2 ?_)
 refine RS.ex (fun w s=>Wrk_open 0 rfl s) ?_
 rintro gs21
 refine au 4 ?_
 refine RS.ex (fun w s=>Std_open 5 rfl s) ?_
 rintro ⟨qt22,qb23,qu24,va25,vb26,vc27,gc28⟩
 refine au 3 ?_
 refine RS.nil (k15 _ _ (kq [0] ?_))
 refine T.seq fun _ k16=>nz ?_
 refine T.region (au 8 ?_)
 obtain ⟨g29,H⟩:=gdE H
 refine rp (Pu.addS rfl rfl g29) (au 4 ?_)
 refine RS.nil (k16 _ _ (kq [] ?_))
 refine au 2 ?_
 refine T.wk (fun w s=>((Sat.sP [0,1,2,3,6,8] [5,7,4,9,10,11] s (Std_shut (x:=(⟨(⟨x19.2.s.w.tick,x19.2.s.w.players,(x19.2.s.w.nextid + 1),x19.2.s.w.g,x16.1,x19.2.s.w.us⟩:Wld),x19.2.s.op,x19.2.s.cs⟩:Std)) ⟨qt22,q17,qu24,va25,vb26,vc27,gc28⟩))).pickP [1,2,3,4,0,5,6]) ?_
 refine T.wk (fun w s=>(Sat.sP [1,2,3,6] [0,4,5] s (Wrk_shut (x:=(⟨(⟨(⟨x19.2.s.w.tick,x19.2.s.w.players,(x19.2.s.w.nextid + 1),x19.2.s.w.g,x16.1,x19.2.s.w.us⟩:Wld),x19.2.s.op,x19.2.s.cs⟩:Std),x19.2.f⟩:Wrk)) gs21))) ?_
 obtain rfl:=sj H
 refine T.rt (Cont.ret1 rfl rfl fun w' s=>?_)
 exact ⟨rfl,s.pc [0,1]⟩
theorem work_move_walk {w0:World} {F:Ch} (g0:Nat) (gf:Nat) (vc:Value) (ac:Cmd) (a0_w:Wrk) (hv:Rd (Sat w0 [F]) ac.units [vc]) {r:Int × Wrk} (H:work_move ac a0_w = some r) (w:World) (s:Sat w0 [Wrk_ch g0 gf vc ac a0_w,F] w):Calls Tryz.prog 127 #[.pointer (some ⟨g0,0,none⟩)] w fun e w'=>e = .returned (.int .i64 r.1)∧Sat w0 [Wrk_ch g0 gf vc ac r.2,F] w':=by
 have hmv:=R_max (hv w (s.pc [1]))
 obtain ⟨pv,cv,rfl⟩:=R_form (hv w (s.pc [1]))
 unfold work_move at H
 refine te Tryz.func127 s ?_
 refine au 2 ?_
 refine T.seq fun _ k2=>T.seq fun _ k3=>?_
 refine T.ex (fun w s=>Wrk_open 0 rfl s) ?_
 rintro gs1
 refine nz ?_
 refine T.ex (fun w s=>Std_open 2 rfl s) ?_
 rintro ⟨qt2,qb3,qu4,va5,vb6,vc7,gc8⟩
 refine nz ?_
 refine dr mixed [0,0,0,1,0,0,0,1,0,0,0,0,1,1,0] ?_
 refine au 13 ?_
 obtain ⟨x9,hx9,H⟩:=bindE H
 refine dq rfl (Qt.call (vs:=[_,_]) ent170 rfl fun w s=>ground_Is_fwalk a0_w.s.w.g ac.tile w  hx9) (dp rfl (Pu.not rfl) (RD.nil (k3 _ _ ?_)))
 refine T.cB H rfl (fun _ H=>nomatch H) (fun hc10 H=>?_)
 refine T.skip (k2 _ _ (kq [0] ?_))
 refine T.seq fun _ k5=>nz ?_
 refine T.region (rM rfl ?_)
 refine RS.wk (fun w s=>((Sat.sP [0,1,3] [2,4,5,6,7,8] s (Std_shut (x:=a0_w.s) ⟨qt2,qb3,qu4,va5,vb6,vc7,gc8⟩))).pickP [1,2,0,3]) ?_
 refine RS.wk (fun w s=>(Sat.sP [1] [0,2,3] s (Wrk_shut (x:=a0_w) gs1))) ?_
 obtain ⟨x11,hx11,H⟩:=bindE H
 refine RS.solid (Sd.callF 0 ent187 rfl rfl (fun w s=>work_all_walk g0 gf (.slice pv ac.units.length cv) ac a0_w (Rd.rest 1 rfl (by decide) hv) hx11 w s)) rfl rfl fun q12=>au 5 ?_
 refine RS.nil (k5 _ _ (kq [0,3,4] ?_))
 refine T.seq fun _ k6=>au 3 ?_
 refine T.cP H rfl (fun _ H=>nomatch H) (fun hc13 H=>?_)
 refine T.skip (k6 _ _ (kq [0,3] ?_))
 refine T.seq fun _ k9=>T.region (RS.solid (Sd.makeMpr (e:=3)) rfl rfl fun b14=>rA rfl (RS.nil (k9 _ _ ?_)))
 refine T.seq fun _ k10=>au 4 ?_
 refine T.joinE (σ:=Wrk × List (Int × List Int)) (γ:=Unit) H (fun s=>s) [] trivial (fun (v16,v17) _=>[]) (fun (v16,v17) _=>Sat w0 [Wrk_ch g0 gf (.slice pv ac.units.length cv) ac v16,F,row nilH 54 (rowV q12 x11.1.length) x11.1,Mpr_ch 3 b14 v17]) ?_ ?_
 ·rintro ⟨v16,v17⟩ ⟨⟩ H
  try dsimp only [Ex.then] at H
  refine Cont.kq [] ?_
  refine id (k10 _ _ ?_)
  refine au 2 ?_
  obtain rfl:=sj H
  refine T.rt (Cont.ret1 rfl rfl fun w' s=>?_)
  exact ⟨rfl,s.pc [0,1]⟩
 intro z15 hz15 HX15 hJ15
 refine T.block ?_
 refine T.loopA (γ:=Unit) hz15 [(0,_),(3,_),(5,_),(35,_),(36,_)] (fun (v18,v19,v20) _=>[(37,.int .i64 v18)]) (fun (v18,v19,v20) _=>Sat w0 [Wrk_ch g0 gf (.slice pv ac.units.length cv) ac v19,F,row nilH 54 (rowV q12 x11.1.length) x11.1,Mpr_ch 3 b14 v20]) () sb sb (fun w s=>s) ?_
 rintro ⟨v18,v19,v20⟩ ⟨⟩ y21 H hd15 KL15 hL15
 try dsimp only [Ex.then] at H
 refine kq [37,0,3,5,35,36] ?_
 refine au 2 ?_
 refine T.seq fun _ k14=>?_
 refine T.cP H rfl (fun hc22 H=>?_) (fun hc22 H=>?_)
 ·refine T.skip (k14 _ _ ?_)
  refine T.seq fun _ k15=>T.block (T.seq fun _ k16=>T.region (rM rfl ?_))
  obtain ⟨g23,H⟩:=gdE H
  refine RS.know (p:=∃ g cap,q12 = (some g,cap)) (fun w s=>(s.row_some (k:=2) rfl (pos_of g23))) ?_
  rintro ⟨gg24,cc25,rfl⟩
  refine rp (Pu.indexSl sl50.h rfl rfl g23) (rq (Qt.ldW (α:=Unt) (cs:=[_,_,_,_,_,_,_,_,_,_]) (Rd.ofRowN 2 rfl) ty54.h rfl rfl g23 rfl (by rintro _ _ rfl; rfl)) (RS.solid (Sd.alloc zr54 rfl) rfl rfl fun b26=>au 2 ?_))
  refine RS.nil (k16 _ _ (kq [0,3,5,6,7,35,36,37] ?_))
  refine T.seq fun _ k17=>T.seq fun _ k18=>T.region (au 3 ?_)
  refine RS.ex (fun w s=>Sat.mprOpen 3 rfl s) ?_
  rintro ⟨L27,hL28⟩
  refine nz ?_
  refine rq (Qt.mprLook2 (x:=v20) 3 mpz279 rfl rfl hL28 rfl) ?_
  refine RS.wk (fun w s=>Sat.mprShut 3 hL28 rfl s) ?_
  refine au 5 ?_
  refine RS.nil (k18 _ _ (kq [0,3,5,6,7,9,35,36,37] ?_))
  refine au 3 ?_
  refine T.joinE (σ:=Wrk × List (Int × List Int)) (γ:=Unit) H (fun s=>s) [(0,_),(3,_),(5,_),(6,_),(7,_),(35,_),(36,_),(37,_)] sb (fun (v30,v31) _=>[]) (fun (v30,v31) _=>Sat w0 [Wrk_ch g0 gf (.slice pv ac.units.length cv) ac v30,F,row nilH 54 (rowV (some gg24,cc25) x11.1.length) x11.1,Mpr_ch 3 b14 v31,blk b26 [.int .i64 ((gi x11.1 v18).id),.int .i64 ((gi x11.1 v18).owner),.int .i64 ((gi x11.1 v18).kind),.int .i64 (((gi x11.1 v18).pos).x),.int .i64 (((gi x11.1 v18).pos).y),.int .i64 ((gi x11.1 v18).goal),.int .i64 ((gi x11.1 v18).next),.int .i64 ((gi x11.1 v18).stuck),.int .i64 ((gi x11.1 v18).inn),.int .i64 ((gi x11.1 v18).state)] 54]) ?_ ?_
  ·rintro ⟨v30,v31⟩ ⟨⟩ H
   try dsimp only [Ex.then] at H
   refine Cont.kq [0,3,5,6,7,35,36,37] ?_
   refine id (k17 _ _ ?_)
   refine T.seq fun _ k20=>T.region (au 2 ?_)
   refine RS.ex (fun w s=>Wrk_open 0 rfl s) ?_
   rintro gs32
   refine au 11 ?_
   refine RS.nil (k20 _ _ (kq [0,3,5,6,7,35,36,37] ?_))
   refine T.seq fun _ k21=>T.seq fun _ k22=>nz ?_
   refine T.region (au 3 ?_)
   refine RS.ex (fun w s=>Sat.mprPull 3 ((gi x11.1 v18).kind) rfl s) ?_
   rintro ⟨⟨L33,q35⟩,hL34,hq36⟩
   refine nz ?_
   refine rq (Qt.mprLook1 (x:=v31) 3 mpz279 rfl rfl hL34 hq36 rfl) (rA rfl (RS.nil (k22 _ _ (kq [0,3,5,6,7,10,35,36,37] ?_))))
   refine au 5 ?_
   refine T.cP H rfl (fun hc37 H=>?_) (fun hc37 H=>?_)
   ·refine kq [0,3,5,6,7,10,35,36,37] ?_
    refine nz ?_
    refine T.region (au 2 ?_)
    obtain ⟨g38,H⟩:=gdE H
    refine RS.know (p:=∃ g cap,q35 = (some g,cap)) (fun w s=>(s.row_some (k:=7) rfl (pos_of g38))) ?_
    rintro ⟨gg39,cc40,rfl⟩
    refine rp (Pu.indexSl sl35.h rfl rfl g38) (rq (Qt.ld0 (α:=Int) (Rd.ofRowN 7 rfl) ty3.h rfl rfl g38 (by rintro _ _ rfl; rfl)) (au 2 ?_))
    refine RS.nil (k21 _ _ (kq [0,3,5,7,35,36,37] ?_))
    refine nz ?_
    refine dr mixed [0,0,0,1,1,4] ?_
    refine au 5 ?_
    obtain ⟨x41,hx41,H⟩:=bindE H
    refine RD.solid rfl (.inr rfl) rfl rfl (Sd.callF0 5 ent189 rfl rfl (fun w s=>army_Put_walk gs32 v30.s (⟨(gi x11.1 v18).id,(gi x11.1 v18).owner,(gi x11.1 v18).kind,((gi x11.1 v18).pos),(gi ((kget v31 ((gi x11.1 v18).kind)).getD []) v18),(-1),0,(gi x11.1 v18).inn,1⟩:Unt)  hx41 w s)) (fun _=>ClE.sat _ _) (fun _ _ _=>trivial) (fun h=>nomatch h) fun _=>?_
    refine RD.nil (k15 _ _ (kq [0,3,5,35,36,37] ?_))
    refine nz ?_
    refine T.region ?_
    obtain ⟨g42,H⟩:=gdE H
    refine rp (Pu.addS rfl rfl g42) (rM rfl (RS.nil ?_))
    refine Cont.wk (fun w s=>(Sat.sP [1,2,3,4,7] [0,5,6] s (Wrk_shut (x:=(⟨x41,v30.f⟩:Wrk)) gs32))) ?_
    refine Cont.wk (fun w s=>Sat.mprBack (x:=v31) (i:=((gi x11.1 v18).kind)) 3 5 rfl rfl (by decide) hL34 hq36 s) ?_
    refine id (hL15 _ _ ((v18 + 1),(⟨x41,v30.f⟩:Wrk),v31) () H sb sb (fun w s=>s.pc [0,1,2,3]))
   refine T.skip (k21 _ _ (kq [0,3,5,7,35,36,37] ?_))
   refine nz ?_
   refine dr mixed [0,0,0,1,1,4] ?_
   refine au 5 ?_
   obtain ⟨x43,hx43,H⟩:=bindE H
   refine RD.solid rfl (.inr rfl) rfl rfl (Sd.callF0 5 ent189 rfl rfl (fun w s=>army_Put_walk gs32 v30.s (⟨(gi x11.1 v18).id,(gi x11.1 v18).owner,(gi x11.1 v18).kind,((gi x11.1 v18).pos),ac.tile,(-1),0,(gi x11.1 v18).inn,1⟩:Unt)  hx43 w s)) (fun _=>ClE.sat _ _) (fun _ _ _=>trivial) (fun h=>nomatch h) fun _=>?_
   refine RD.nil (k15 _ _ (kq [0,3,5,35,36,37] ?_))
   refine nz ?_
   refine T.region ?_
   obtain ⟨g44,H⟩:=gdE H
   refine rp (Pu.addS rfl rfl g44) (rM rfl (RS.nil ?_))
   refine Cont.wk (fun w s=>(Sat.sP [1,2,3,4,7] [0,5,6] s (Wrk_shut (x:=(⟨x43,v30.f⟩:Wrk)) gs32))) ?_
   refine Cont.wk (fun w s=>Sat.mprBack (x:=v31) (i:=((gi x11.1 v18).kind)) 3 5 rfl rfl (by decide) hL34 hq36 s) ?_
   refine id (hL15 _ _ ((v18 + 1),(⟨x43,v30.f⟩:Wrk),v31) () H sb sb (fun w s=>s.pc [0,1,2,3]))
  intro z29 H HX29 hJ29
  refine T.cB H rfl (fun hc45 H=>?_) (fun hc45 H=>?_)
  ·refine kq [0,3,5,6,7,35,36,37] ?_
   refine T.ex (fun w s=>Wrk_open 0 rfl s) ?_
   rintro gs46
   refine nz ?_
   refine drS mixed [1,2,4] [0,0,2,0,0,1,0,0,0,0,1,0,0,4,4] ?_
   refine au 13 ?_
   obtain ⟨x47,hx47,H⟩:=bindE H
   refine RD.solid rfl (.inr rfl) rfl rfl (Sd.postE (S2:=fun (qr:Option Nat × Nat) (q:Nat)=>Sat w0 [blk g0 [.pointer (some ⟨q,0,none⟩),.int .i64 ac.player,.int .i64 ac.seq,.int .i64 ac.kind,.int .i64 ac.n,.slice pv ac.units.length cv,.int .i64 ac.tile,.int .i64 ac.w,.int .i64 ac.h,.int .i64 ac.pos.x,.int .i64 ac.pos.y,.func (.func 40) #[.pointer (some ⟨gf,0,none⟩)] #[]] 159,F,row nilH 54 (rowV (some gg24,cc25) x11.1.length) x11.1,Mpr_ch 3 b14 v20,blk b26 [.int .i64 ((gi x11.1 v18).id),.int .i64 ((gi x11.1 v18).owner),.int .i64 ((gi x11.1 v18).kind),.int .i64 (((gi x11.1 v18).pos).x),.int .i64 (((gi x11.1 v18).pos).y),.int .i64 ((gi x11.1 v18).goal),.int .i64 ((gi x11.1 v18).next),.int .i64 ((gi x11.1 v18).stuck),.int .i64 ((gi x11.1 v18).inn),.int .i64 ((gi x11.1 v18).state)] 54,Std_ch q x47.2.s,Fld_ch gf x47.2.f,row nilH 3 (rowV qr x47.1.length) x47.1]) (Sd.pre (S0:=Sat w0 [Wrk_ch g0 gf (.slice pv ac.units.length cv) ac v19,F,row nilH 54 (rowV (some gg24,cc25) x11.1.length) x11.1,Mpr_ch 3 b14 v20,blk b26 [.int .i64 ((gi x11.1 v18).id),.int .i64 ((gi x11.1 v18).owner),.int .i64 ((gi x11.1 v18).kind),.int .i64 (((gi x11.1 v18).pos).x),.int .i64 (((gi x11.1 v18).pos).y),.int .i64 ((gi x11.1 v18).goal),.int .i64 ((gi x11.1 v18).next),.int .i64 ((gi x11.1 v18).stuck),.int .i64 ((gi x11.1 v18).inn),.int .i64 ((gi x11.1 v18).state)] 54]) (fun w s=>(Sat.sP [1,2,3,4] [0,5,6] s (Wrk_shut (x:=v19) gs46))) (Sd.callF 0 ent188 rfl rfl (fun w s=>work_about_walk g0 gf (.slice pv ac.units.length cv) ac v19 ((gi x11.1 v18).kind) ac.tile (x11.1.length:Int) (Rd.rest 1 rfl (by decide) hv) hx47 w s))) (fun _ w s=>let ⟨j,s⟩:=Wrk_open 0 rfl s; ⟨j,(s).pick [0,1,2,3,4,6,7,5] (by decide) rfl⟩)) (fun _=>ClE.sat _ _) (fun _ w s=>s.pc [1,2,4]) (fun h=>nomatch h) fun ⟨q48,gs49⟩=>?_
   obtain ⟨g50,H⟩:=gdE H
   refine RD.solid rfl (.inr rfl) rfl rfl (Sd.mprPut (x:=v20) (l:=x47.1) 3 7 mpz279 rfl rfl rfl rfl rfl (by decide) g50) (fun _=>ClE.sat _ _) (fun _ w s=>s.pc [1,2,4]) (fun h=>nomatch h) fun _=>?_
   refine RD.nil ?_
   refine Cont.wk (fun w s=>(Sat.sP [1,2,3,4] [0,5,6] s (Wrk_shut (x:=x47.2) gs49))) ?_
   obtain rfl:=sj H
   refine id (hJ29 _ _ (x47.2,(kput v20 ((gi x11.1 v18).kind) x47.1)) () HX29 sb trivial (fun w s=>s))
  refine T.skip ?_
  obtain rfl:=sj H
  refine id (hJ29 _ _ (v19,v20) () HX29 sb trivial (fun w s=>s))
 refine T.xt ?_
 obtain rfl:=hd15 _ H
 refine id (hJ15 _ _ (v19,v20) () HX15 trivial trivial (fun w s=>s))
theorem work_drop_walk {w0:World} {F:Ch} (g0:Nat) (gf:Nat) (vc:Value) (ac:Cmd) (a0_w:Wrk) (hv:Rd (Sat w0 [F]) ac.units [vc]) {r:Int × Wrk} (H:work_drop ac a0_w = some r) (w:World) (s:Sat w0 [Wrk_ch g0 gf vc ac a0_w,F] w):Calls Tryz.prog 130 #[.pointer (some ⟨g0,0,none⟩)] w fun e w'=>e = .returned (.int .i64 r.1)∧Sat w0 [Wrk_ch g0 gf vc ac r.2,F] w':=by
 have hmv:=R_max (hv w (s.pc [1]))
 obtain ⟨pv,cv,rfl⟩:=R_form (hv w (s.pc [1]))
 unfold work_drop at H
 refine te Tryz.func130 s ?_
 refine T.seq fun _ k1=>T.region (RS.solid (Sd.box (cs:=[_]) rfl rfl) rfl rfl fun b1=>rA rfl (RS.nil (k1 _ _ ?_)))
 refine T.seq fun _ k2=>T.region (au 2 ?_)
 refine RS.ex (fun w s=>Wrk_open 0 rfl s) ?_
 rintro gs2
 refine au 3 ?_
 refine RS.ex (fun w s=>Std_open 3 rfl s) ?_
 rintro ⟨qt3,qb4,qu5,va6,vb7,vc8,gc9⟩
 refine au 3 ?_
 refine rp (Pu.makeFunc rfl) ?_
 obtain ⟨x10,hx10,H⟩:=bindE H
 refine rq (Qt.call ent169 rfl fun w s=>slices_IndexFuncB_walk a0_w.s.w.bs (fun y0:Bld=>some (decide (y0.id = ac.n))) w ((Rd.ofRowN 6 rfl) w s) ⟨192,_,rfl,ent192,fun y0 r w' he hr=>drop1_walk y0 w' (blk_ext he (blk_of s (k:=2) rfl)) (blk_ext he (blk_of s (k:=0) rfl)) hr⟩ hx10) (rA rfl (RS.nil (k2 _ _ (kq [1,3] ?_))))
 refine T.seq fun _ k3=>T.block (au 4 ?_)
 refine T.cP H rfl (fun _ H=>nomatch H) (fun hc11 H=>?_)
 refine kq [1,3] ?_
 refine T.seq fun _ k6=>nz ?_
 refine dr mixed [1,0,0,1,0,0,0,1,0,0,0,1,1,0,0,0,1,0,0] ?_
 refine au 9 ?_
 obtain ⟨g12,H⟩:=gdE H
 refine RD.know (p:=∃ g cap,qb4 = (some g,cap)) (fun w s=>(s.row_some (k:=6) rfl (pos_of g12))) ?_
 rintro ⟨gg13,cc14,rfl⟩
 refine dp rfl (Pu.indexSl sl49.h rfl rfl g12) (dp rfl (Pu.fieldAddr fd135_1.h rfl) (dq rfl (Qt.ldF (α:=Bld) (Rd.ofRowN 6 rfl) ty3.h rfl rfl g12 (by rintro _ _ rfl; rfl)) (au 7 ?_)))
 refine RD.nil (k6 _ _ ?_)
 refine T.cP H rfl (fun _ H=>nomatch H) (fun hc15 H=>?_)
 refine T.skip (k3 _ _ (kq [1,3] ?_))
 refine T.seq fun _ k8=>nz ?_
 refine T.drawnS [0,1,2,4,5,6,7,8,9] [(0,.wk),(1,.pu),(2,.pu),(3,.wk),(4,.rd),(5,.pu),(6,.pu),(7,.rd),(8,.pu),(9,.pu),(10,.pu),(11,.rd),(13,.pu),(14,.pu),(15,.pu),(12,.so),(16,.br),(17,.pu),(18,.pu),(19,.pu),(20,.br)] mixed (by kernel_rfl) rfl ?_
 refine au 14 ?_
 obtain ⟨g16,H⟩:=gdE H
 refine RD.p (fun w s=>s.pc [0,1,2,4,5,6,7,8,9]) rfl (Pu.addS rfl rfl g16) rfl rfl ?_
 obtain ⟨x17,hx17,H⟩:=bindE H
 refine RD.solid rfl (.inl rfl) rfl rfl (Sd.callN (vs:=[_]) ent74 rfl (fun w s=>slices_Clone_Bld_walk a0_w.s.w.bs w ((Rd.ofRowN 6 rfl) w s) hx17)) (fun _=>ClE.sat _ _) (fun _ w s=>s.pc [0,1,2,4,5,6,7,8,9]) (fun _ _ _ s=>s.drop1) fun q18=>?_
 obtain ⟨x19,hx19,H⟩:=bindE H
 refine RD.solid rfl (.inr rfl) rfl rfl (Sd.callM 10 ent193 rfl rfl (fun w s=>slices_Delete_walk x17 x10 (x10 + 1) rfl  hx19 w s)) (fun _=>ClE.sat _ _) (fun _ w s=>s.pc [0,1,2,4,5,6,7,8,9]) (fun h=>nomatch h) fun q20=>?_
 refine au 4 ?_
 refine RD.nil (k8 _ _ (kq [] ?_))
 refine au 2 ?_
 refine T.wk (fun w s=>((Sat.sP [0,1,2,4,6] [3,5,10,7,8,9] s (Std_shut (x:=(⟨(⟨a0_w.s.w.tick,a0_w.s.w.players,a0_w.s.w.nextid,a0_w.s.w.g,x19,a0_w.s.w.us⟩:Wld),a0_w.s.op,a0_w.s.cs⟩:Std)) ⟨qt3,q20,qu5,va6,vb7,vc8,gc9⟩))).pickP [1,2,3,0,4,5]) ?_
 refine T.wk (fun w s=>(Sat.sP [1,2,5] [0,3,4] s (Wrk_shut (x:=(⟨(⟨(⟨a0_w.s.w.tick,a0_w.s.w.players,a0_w.s.w.nextid,a0_w.s.w.g,x19,a0_w.s.w.us⟩:Wld),a0_w.s.op,a0_w.s.cs⟩:Std),a0_w.f⟩:Wrk)) gs2))) ?_
 obtain rfl:=sj H
 refine T.rt (Cont.ret1 rfl rfl fun w' s=>?_)
 exact ⟨rfl,s.pc [0,1]⟩
theorem work_does_walk {w0:World} {F:Ch} (g0:Nat) (gf:Nat) (vc:Value) (ac:Cmd) (a0_w:Wrk) (hv:Rd (Sat w0 [F]) ac.units [vc]) {r:Int × Wrk} (H:work_does ac a0_w = some r) (w:World) (s:Sat w0 [Wrk_ch g0 gf vc ac a0_w,F] w):Calls Tryz.prog 77 #[.pointer (some ⟨g0,0,none⟩)] w fun e w'=>e = .returned (.int .i64 r.1)∧Sat w0 [Wrk_ch g0 gf vc ac r.2,F] w':=by
 have hmv:=R_max (hv w (s.pc [1]))
 obtain ⟨pv,cv,rfl⟩:=R_form (hv w (s.pc [1]))
 unfold work_does at H
 refine te Tryz.func77 s ?_
 refine au 2 ?_
 refine T.seq fun _ k2=>T.seq fun _ k3=>T.region (au 2 ?_)
 refine RS.ex (fun w s=>Wrk_open 0 rfl s) ?_
 rintro gs1
 refine au 3 ?_
 refine RS.nil (k3 _ _ (kq [0,7] ?_))
 refine T.block (au 3 ?_)
 refine T.cP H rfl (fun hc2 H=>?_) (fun hc2 H=>?_)
 ·refine kq [0] ?_
  refine T.seq fun _ k5=>T.region (rM rfl ?_)
  refine RS.wk (fun w s=>(Sat.sP [1] [0,2,3] s (Wrk_shut (x:=a0_w) gs1))) ?_
  obtain ⟨x3,hx3,H⟩:=bindE H
  refine RS.solid (Sd.callF0 0 ent126 rfl rfl (fun w s=>apply_work_spawn_walk g0 gf (.slice pv ac.units.length cv) ac a0_w (Rd.rest 1 rfl (by decide) hv) hx3 w s)) rfl rfl fun _=>rA rfl (RS.nil (k5 _ _ (kq [2] ?_)))
  obtain rfl:=sj H
  refine T.rt (Cont.ret1 rfl rfl fun w' s=>?_)
  exact ⟨rfl,s.pc [0,1]⟩
 refine au 3 ?_
 refine T.cP H rfl (fun hc4 H=>?_) (fun hc4 H=>?_)
 ·refine kq [0] ?_
  refine T.seq fun _ k7=>T.region (rM rfl ?_)
  refine RS.wk (fun w s=>(Sat.sP [1] [0,2,3] s (Wrk_shut (x:=a0_w) gs1))) ?_
  obtain ⟨x5,hx5,H⟩:=bindE H
  refine RS.solid (Sd.callF0 0 ent127 rfl rfl (fun w s=>work_move_walk g0 gf (.slice pv ac.units.length cv) ac a0_w (Rd.rest 1 rfl (by decide) hv) hx5 w s)) rfl rfl fun _=>rA rfl (RS.nil (k7 _ _ (kq [2] ?_)))
  obtain rfl:=sj H
  refine T.rt (Cont.ret1 rfl rfl fun w' s=>?_)
  exact ⟨rfl,s.pc [0,1]⟩
 refine kq [0,7] ?_
 refine au 3 ?_
 refine T.cP H rfl (fun _ H=>nomatch H) (fun hc6 H=>?_)
 refine au 3 ?_
 refine T.cP H rfl (fun hc7 H=>?_) (fun hc7 H=>?_)
 ·refine kq [0] ?_
  refine T.seq fun _ k11=>T.region (rM rfl ?_)
  refine RS.wk (fun w s=>(Sat.sP [1] [0,2,3] s (Wrk_shut (x:=a0_w) gs1))) ?_
  obtain ⟨x8,hx8,H⟩:=bindE H
  refine RS.solid (Sd.callF0 0 ent129 rfl rfl (fun w s=>apply_work_build_walk g0 gf (.slice pv ac.units.length cv) ac a0_w (Rd.rest 1 rfl (by decide) hv) hx8 w s)) rfl rfl fun _=>rA rfl (RS.nil (k11 _ _ (kq [2] ?_)))
  obtain rfl:=sj H
  refine T.rt (Cont.ret1 rfl rfl fun w' s=>?_)
  exact ⟨rfl,s.pc [0,1]⟩
 refine kq [0,7] ?_
 refine au 3 ?_
 refine T.cP H rfl (fun hc9 H=>?_) (fun hc9 H=>?_)
 ·refine kq [0] ?_
  refine T.seq fun _ k13=>T.region (rM rfl ?_)
  refine RS.wk (fun w s=>(Sat.sP [1] [0,2,3] s (Wrk_shut (x:=a0_w) gs1))) ?_
  obtain ⟨x10,hx10,H⟩:=bindE H
  refine RS.solid (Sd.callF0 0 ent130 rfl rfl (fun w s=>work_drop_walk g0 gf (.slice pv ac.units.length cv) ac a0_w (Rd.rest 1 rfl (by decide) hv) hx10 w s)) rfl rfl fun _=>rA rfl (RS.nil (k13 _ _ (kq [2] ?_)))
  obtain rfl:=sj H
  refine T.rt (Cont.ret1 rfl rfl fun w' s=>?_)
  exact ⟨rfl,s.pc [0,1]⟩
 refine T.seq fun _ k14=>?_
 exact nomatch H
end Go.Proofs.YtmngdgclldkcfaaGreat
