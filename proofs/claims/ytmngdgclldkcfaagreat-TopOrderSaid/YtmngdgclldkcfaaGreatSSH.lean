/-
  Walks of a session's functions.
-/
import Derived.Test.YtmngdgclldkcfaaGreatRows
import Derived.Test.YtmngdgclldkcfaaGreatJ6
import Derived.Test.YtmngdgclldkcfaaGreatJ7
import Derived.Test.YtmngdgclldkcfaaGreatJ22
import Derived.Test.YtmngdgclldkcfaaGreatEH
import Derived.Test.YtmngdgclldkcfaaGreatPA
import Derived.Test.YtmngdgclldkcfaaGreatIH
import Derived.Test.YtmngdgclldkcfaaGreatJ11
set_option linter.unusedVariables false
set_option linter.unusedSimpArgs false
set_option maxRecDepth 20000
set_option maxHeartbeats 4000000
namespace Go.Proofs.YtmngdgclldkcfaaGreat
open Go.Vg
open Enc (R)
theorem ent105:Ent Tryz.prog 105:=en Tryz.func105
theorem ent106:Ent Tryz.prog 106:=en Tryz.func106
theorem ent107:Ent Tryz.prog 107:=en Tryz.func107
theorem ent109:Ent Tryz.prog 109:=en Tryz.func109
theorem ent14:Ent Tryz.prog 14:=en Tryz.func14
theorem ent160:Ent Tryz.prog 160:=en Tryz.func160
theorem ent161:Ent Tryz.prog 161:=en Tryz.func161
theorem ent162:Ent Tryz.prog 162:=en Tryz.func162
theorem ent163:Ent Tryz.prog 163:=en Tryz.func163
theorem ent17:Ent Tryz.prog 17:=en Tryz.func17
theorem ent18:Ent Tryz.prog 18:=en Tryz.func18
theorem ent19:Ent Tryz.prog 19:=en Tryz.func19
theorem ent29:Ent Tryz.prog 29:=en Tryz.func29
theorem ent30:Ent Tryz.prog 30:=en Tryz.func30
theorem ent59:Ent Tryz.prog 59:=en Tryz.func59
theorem ent60:Ent Tryz.prog 60:=en Tryz.func60
theorem ent62:Ent Tryz.prog 62:=en Tryz.func62
instance fd31_0:FdC Tryz.prog 31 0 0:={}
instance fd31_1:FdC Tryz.prog 31 1 1:={}
instance fd31_2:FdC Tryz.prog 31 2 2:={}
instance fd31_4:FdC Tryz.prog 31 4 4:={}
instance fd44_0:FdC Tryz.prog 44 0 0:={}
instance fd44_1:FdC Tryz.prog 44 1 1:={}
instance fd44_2:FdC Tryz.prog 44 2 2:={}
instance fd44_3:FdC Tryz.prog 44 3 3:={}
instance fd44_4:FdC Tryz.prog 44 4 4:={}
instance fd85_0:FdC Tryz.prog 85 0 0:={}
instance fd85_1:FdC Tryz.prog 85 1 1:={}
instance fd85_2:FdC Tryz.prog 85 2 2:={}
instance fd94_0:FdC Tryz.prog 94 0 0:={}
instance fd94_1:FdC Tryz.prog 94 1 11:={}
instance sl25:SlC Tryz.prog 25 (31,5,56):={}
instance sl39:SlC Tryz.prog 39 (87,1,24):={}
instance sl40:SlC Tryz.prog 40 (52,8,112):={}
instance sl42:SlC Tryz.prog 42 (200,3,40):={}
instance sl82:SlC Tryz.prog 82 (92,1,8):={}
theorem st200:stTy Tryz.prog 200 = some ([.int .i64 0,.slice none 0 0,.int .u64 0],[(0,1),(1,1),(2,1)]):=by kernel_rfl
theorem st44:stTy Tryz.prog 44 = some ([.slice none 0 0,.slice none 0 0,.slice none 0 0,.slice none 0 0,.slice none 0 0],[(0,1),(1,1),(2,1),(3,1),(4,1)]):=by kernel_rfl
theorem st85:stTy Tryz.prog 85 = some ([.slice none 0 0,.slice none 0 0,.slice none 0 0,.slice none 0 0,.slice none 0 0,.slice none 0 0,.slice none 0 0],[(0,1),(1,1),(2,5)]):=by kernel_rfl
theorem st94:stTy Tryz.prog 94 = some ([.int .i64 0,.int .i64 0,.int .i64 0,.int .i64 0,.int .i64 0,.slice none 0 0,.slice none 0 0,.slice none 0 0,.slice none 0 0,.slice none 0 0,.bool false,.pointer none],[(0,11),(11,1)]):=by kernel_rfl
instance ty31:TyC Tryz.prog 31 (5,true):={}
instance ty39:TyC Tryz.prog 39 (1,false):={}
instance ty40:TyC Tryz.prog 40 (1,false):={}
instance ty42:TyC Tryz.prog 42 (1,false):={}
instance ty44:TyC Tryz.prog 44 (5,true):={}
instance ty62:TyC Tryz.prog 62 (1,false):={}
instance ty82:TyC Tryz.prog 82 (1,false):={}
instance ty83:TyC Tryz.prog 83 (1,false):={}
instance ty92:TyC Tryz.prog 92 (1,false):={}
theorem zr200:zeroOf Tryz.prog 200 = some (.agg #[.int .i64 0,.slice none 0 0,.int .u64 0]):=by kernel_rfl
theorem zr31:zeroOf Tryz.prog 31 = some (.agg #[.int .i64 0,.int .i64 0,.int .i64 0,.int .i64 0,.slice none 0 0]):=by kernel_rfl
theorem zr44:zeroOf Tryz.prog 44 = some (.agg #[.slice none 0 0,.slice none 0 0,.slice none 0 0,.slice none 0 0,.slice none 0 0]):=by kernel_rfl
theorem zr87:zeroOf Tryz.prog 87 = some (.slice none 0 0):=by kernel_rfl
theorem zr92:zeroOf Tryz.prog 92 = some (.pointer none):=by kernel_rfl
theorem session_party_say_walk {w0:World} {F:Ch} (g0:Nat) (vm:Value) (a0_s:Pty) (a1_k:Int) (a2_l:List Cmd) {v0:Value} (h0:Rd (Sat w0 [F]) a2_l [v0]) {r:Pty} (H:session_party_say a0_s a1_k a2_l = some r) (w:World) (s:Sat w0 [Pty_ch g0 vm a0_s,F] w):Calls Tryz.prog 59 #[.pointer (some ⟨g0,0,none⟩),.int .i64 a1_k,v0] w fun e w'=>e = .returned (.tuple #[])∧Sat w0 [Pty_ch g0 vm r,F] w':=by
 have hm0:=R_max (h0 w (s.pc [1]))
 obtain ⟨p0,c0,rfl⟩:=R_form (h0 w (s.pc [1]))
 unfold session_party_say at H
 refine te Tryz.func59 s ?_
 refine T.seq fun _ k1=>T.region (rM rfl ?_)
 obtain ⟨x1,hx1,H⟩:=bindE H
 refine RS.solid (Sd.callN (vs:=[_]) ent104 rfl (fun w s=>command_OwnAll_walk a2_l w ((Rd.ofFrame 1 rfl h0) w s) hx1)) rfl rfl fun q2=>rA rfl (RS.nil (k1 _ _ ?_))
 refine T.seq fun _ k2=>T.seq fun _ k3=>T.region (au 3 ?_)
 refine RS.nil (k3 _ _ (kq [0,1,2,12,13] ?_))
 refine T.joinE (σ:=List Cmd) (γ:=Unit) H (fun s=>s) [(0,_),(1,_),(2,_)] sb (fun v4 _=>[]) (fun v4 _=>Sat w0 [Pty_ch g0 vm a0_s,F,drow 37 (rowV q2 x1.length) v4]) ?_ ?_
 ·rintro v4 ⟨⟩ H
  try dsimp only [Ex.then] at H
  refine Cont.kq [0,1,2] ?_
  refine id (k2 _ _ ?_)
  refine T.seq fun _ k4=>T.region (au 2 ?_)
  refine RS.ex (fun w s=>Pty_open 0 rfl s) ?_
  rintro ⟨⟨gs5,ql6,qh7,qg8,nl9,nh10⟩,hf11⟩
  refine au 3 ?_
  obtain ⟨g12,H⟩:=gdE H
  refine RS.know (p:=∃ g cap,ql6 = (some g,cap)) (fun w s=>s.row_some (k:=3) rfl (pos_of (idx_of (hf11.2.1.trans hf11.1.symm) g12))) ?_
  rintro ⟨gg13,cc14,rfl⟩
  refine rp (Pu.indexSl sl82.h rfl rfl (idx_of hf11.2.1 g12)) ?_
  refine RS.wk (fun w s=>onePull 4 a1_k s rfl hf11.1 hf11.2.1 g12) ?_
  refine rq (Qt.ld0 (α:=Pt) (Rd.ofRowN 3 rfl) ty92.h rfl rfl (idx_of (hf11.2.1.trans hf11.1.symm) g12) (by rintro _ _ rfl; rfl)) (rp (Pu.nilCheck rfl) ?_)
  refine RS.ex (fun w s=>One_open 7 rfl s) ?_
  rintro ⟨qm15,qi16,qh17,qa18,vh19,xe20⟩
  refine nz ?_
  refine RS.know (p:=∃ p c,vh19 = .slice p (((gi a0_s.l a1_k).p).hashes).length c) (fun w s=>Sat.osl_form (k:=12) s rfl) ?_
  rintro ⟨p21,cc22,rfl⟩
  refine au 3 ?_
  obtain ⟨x23,hx23,H⟩:=bindE H
  refine RS.solid (Sd.callN (vs:=[_,_]) ent105 rfl (fun w s=>peer_Say_walk ((gi a0_s.l a1_k).p) v4 w ((Rd.ofG 8 rfl) w s) ((Rd.ofG 9 rfl) w s) ((Rd.ofRowN 10 rfl) w s) ((Rd.ofRowN 11 rfl) w s) ((Rd.ofOsl 12 rfl) w s) ((Rd.ofG 2 rfl) w s) hx23)) rfl rfl fun ⟨q24,q25,q26,q27,q28⟩=>?_
  refine au 3 ?_
  refine RS.solid (Sd.alloc zr89 rfl) rfl rfl fun b29=>au 2 ?_
  refine RS.nil (k4 _ _ (kq [0,1,7,8] ?_))
  refine au 3 ?_
  refine T.cP H rfl (fun hc30 H=>?_) (fun hc30 H=>?_)
  ·refine kq [0,1,7] ?_
   refine nz ?_
   refine dr mixed [0,0,0,1,0,0,1,1,0,0,4] ?_
   refine au 5 ?_
   obtain ⟨g31,H⟩:=gdE H
   refine dp rfl (Pu.indexSl sl82.h rfl rfl (idx_of hf11.2.1 g31)) (dq rfl (Qt.ld0 (α:=Pt) (Rd.ofRowN 3 rfl) ty92.h rfl rfl (idx_of (hf11.2.1.trans hf11.1.symm) g31) (by rintro _ _ rfl; rfl)) (au 4 ?_))
   refine RD.nil ?_
   refine Cont.wk (fun w s=>((Sat.sP [0,1,2,3,4,5,6,8,9,10,11,12,19] [7,14,15,16,17,18,13] (Sat.rowOsl (q:=q28) (m:=x23.1.hashes.length) 18 s rfl) (One_shut (x:=(⟨x23.1,(gi a0_s.l a1_k).w⟩:One)) ⟨q24,q25,q26,q27,(rowV q28 x23.1.hashes.length),xe20⟩))).pickP [1,2,3,4,5,6,7,0,8,9,10,11,12,13]) ?_
   refine Cont.wk (fun w s=>onePush 4 7 s rfl rfl (by decide) hf11.1 hf11.2.1 g12) ?_
   refine Cont.wk (fun w s=>(Sat.sP [1,2,8,9,10,11,12,13] [0,3,4,5,6] s (Pty_shut (x:=(⟨(si a0_s.l a1_k (⟨x23.1,(gi a0_s.l a1_k).w⟩:One)),a0_s.hashes,a0_s.log⟩:Pty)) ⟨(gs5,(some gg13,cc14),qh7,qg8,nl9,nh10),hf11.1,(len_si' hf11.2.1),hf11.2.2⟩))) ?_
   obtain rfl:=sj H
   refine id ?_
   repeat with_reducible refine Cont.inB ?_
   refine Cont.end0 rfl fun w' s=>?_
   exact ⟨rfl,s.pc [0,1]⟩
  refine T.skip ?_
  refine Cont.wk (fun w s=>((Sat.sP [0,1,2,3,4,5,6,14,15,16,17,18,19] [7,8,9,10,11,12,13] s (One_shut (x:=(gi a0_s.l a1_k)) ⟨qm15,qi16,qh17,qa18,(.slice p21 (((gi a0_s.l a1_k).p).hashes).length cc22),xe20⟩))).pickP [1,2,3,4,5,6,7,0,8,9,10,11,12,13]) ?_
  refine Cont.wk (fun w s=>oneSame 4 7 s rfl rfl (by decide) hf11.1 hf11.2.1 g12) ?_
  refine Cont.wk (fun w s=>(Sat.sP [1,2,8,9,10,11,12,13] [0,3,4,5,6] s (Pty_shut (x:=a0_s) ⟨(gs5,(some gg13,cc14),qh7,qg8,nl9,nh10),hf11.1,hf11.2.1,hf11.2.2⟩))) ?_
  obtain rfl:=sj H
  refine id ?_
  repeat with_reducible refine Cont.inB ?_
  refine Cont.end0 rfl fun w' s=>?_
  exact ⟨rfl,s.pc [0,1]⟩
 intro z3 hz3 HX3 hJ3
 refine T.block ?_
 refine T.loopA (γ:=Unit) hz3 [(0,_),(1,_),(2,_),(12,_)] (fun (v32,l33) _=>[(13,.int .i64 v32)]) (fun (v32,l33) _=>Sat w0 [Pty_ch g0 vm a0_s,F,drow 37 (rowV q2 x1.length) l33]) () sb sb (fun w s=>s) ?_
 rintro ⟨v32,l33⟩ ⟨⟩ y34 H hd3 KL3 hL3
 try dsimp only [Ex.then] at H
 refine kq [13,0,1,2,12] ?_
 refine au 2 ?_
 refine T.seq fun _ k7=>?_
 refine T.cP H rfl (fun hc35 H=>?_) (fun hc35 H=>?_)
 ·refine T.skip (k7 _ _ ?_)
  refine T.seq fun _ k8=>T.block (au 3 ?_)
  refine T.region (au 3 ?_)
  obtain ⟨g36,H⟩:=gdE H
  refine rp (Pu.addS rfl rfl g36) ?_
  obtain ⟨g37,H⟩:=gdE H
  refine RS.know (fun w s=>(s.row_fitsG (q:=q2) (m:=x1.length) (k:=2) rfl)) fun hf38=>?_
  refine RS.know (p:=∃ g cap,q2 = (some g,cap)) (fun w s=>(s.row_someG (k:=2) rfl (pos_of (idx_of hf38.1 g37)))) ?_
  rintro ⟨gg39,cc40,rfl⟩
  refine rp (Pu.indexSl sl29.h rfl rfl g37) (rp (Pu.fieldAddr fd37_0.h rfl) (RS.solid (Sd.stD (α:=Cmd) 2 (⟨(a1_k + 1),(gi l33 v32).seq,(gi l33 v32).kind,(gi l33 v32).n,(gi l33 v32).units,(gi l33 v32).tile,(gi l33 v32).w,(gi l33 v32).h,((gi l33 v32).pos)⟩:Cmd) rfl ty3.h rfl rfl rfl (idx_of hf38.1 g37) rfl rfl (by decide) rfl (by rintro _ _ ⟨_,rfl,hd⟩; exact ⟨_,rfl,hd⟩)) rfl rfl fun _=>RS.nil (k8 _ _ (kq [0,1,2,12,13] ?_))))
  refine T.region ?_
  obtain ⟨g41,H⟩:=gdE H
  refine rp (Pu.addS rfl rfl g41) (rM rfl (RS.nil ?_))
  refine id (hL3 _ _ ((v32 + 1),(si l33 v32 (⟨(a1_k + 1),(gi l33 v32).seq,(gi l33 v32).kind,(gi l33 v32).n,(gi l33 v32).units,(gi l33 v32).tile,(gi l33 v32).w,(gi l33 v32).h,((gi l33 v32).pos)⟩:Cmd))) () H sb sb (fun w s=>s))
 refine T.xt ?_
 obtain rfl:=hd3 _ H
 refine id (hJ3 _ _ l33 () HX3 sb trivial (fun w s=>s))
theorem session_party_run_walk {w0:World} {F:Ch} (g0:Nat) (vm:Value) (a0_s:Pty) (a1_k:Int) {r:Bool × Pty} (H:session_party_run a0_s a1_k = some r) (w:World) (s:Sat w0 [Pty_ch g0 vm a0_s,F] w):Calls Tryz.prog 107 #[.pointer (some ⟨g0,0,none⟩),.int .i64 a1_k] w fun e w'=>e = .returned (.bool r.1)∧Sat w0 [Pty_ch g0 vm r.2,F] w':=by
 unfold session_party_run at H
 refine te Tryz.func107 s ?_
 refine au 2 ?_
 refine T.seq fun _ k2=>T.region (au 2 ?_)
 refine RS.ex (fun w s=>Pty_open 0 rfl s) ?_
 rintro ⟨⟨gs1,ql2,qh3,qg4,nl5,nh6⟩,hf7⟩
 refine au 3 ?_
 obtain ⟨g8,H⟩:=gdE H
 refine RS.know (p:=∃ g cap,ql2 = (some g,cap)) (fun w s=>s.row_some (k:=2) rfl (pos_of (idx_of (hf7.2.1.trans hf7.1.symm) g8))) ?_
 rintro ⟨gg9,cc10,rfl⟩
 refine rp (Pu.indexSl sl82.h rfl rfl (idx_of hf7.2.1 g8)) ?_
 refine RS.wk (fun w s=>onePull 3 a1_k s rfl hf7.1 hf7.2.1 g8) ?_
 refine rq (Qt.ld0 (α:=Pt) (Rd.ofRowN 2 rfl) ty92.h rfl rfl (idx_of (hf7.2.1.trans hf7.1.symm) g8) (by rintro _ _ rfl; rfl)) (rA rfl (RS.nil (k2 _ _ (kq [0,1,5] ?_))))
 refine T.seq fun _ k3=>nz ?_
 refine T.region (au 2 ?_)
 refine RS.ex (fun w s=>One_open 6 rfl s) ?_
 rintro ⟨qm11,qi12,qh13,qa14,vh15,xe16⟩
 refine nz ?_
 refine RS.know (p:=∃ p c,vh15 = .slice p (((gi a0_s.l a1_k).p).hashes).length c) (fun w s=>Sat.osl_form (k:=11) s rfl) ?_
 rintro ⟨p17,cc18,rfl⟩
 refine au 2 ?_
 obtain ⟨x19,hx19,H⟩:=bindE H
 refine RS.solid (Sd.callN (vs:=[_]) ent160 rfl (fun w s=>peer_Ready_walk ((gi a0_s.l a1_k).p) w ((Rd.ofG 7 rfl) w s) ((Rd.ofG 8 rfl) w s) ((Rd.ofRowN 9 rfl) w s) ((Rd.ofRowN 10 rfl) w s) ((Rd.ofOsl 11 rfl) w s) hx19)) rfl rfl fun q20=>au 7 ?_
 refine RS.nil (k3 _ _ (kq [0,1,5,6,7,8] ?_))
 refine T.seq fun _ k4=>T.seq fun _ k5=>nz ?_
 refine T.region (au 3 ?_)
 refine RS.joinV 3 31 (.bool (decide ((¬ x19.2.2 = 0) ∨ ((!x19.2.1) = true)))) [(0,_),(1,_),(5,_),(6,_)] sb ?_ ?_
 ·refine RS.nil (k5 _ _ ?_)
  refine T.cP H rfl (fun hc23 H=>?_) (fun hc23 H=>?_)
  ·refine kq [] ?_
   refine au 2 ?_
   refine T.wk (fun w s=>((Sat.sP [0,1,2,3,4,5,13] [6,7,8,9,10,11,12] s (One_shut (x:=(gi a0_s.l a1_k)) ⟨qm11,qi12,qh13,qa14,(.slice p17 (((gi a0_s.l a1_k).p).hashes).length cc18),xe16⟩))).pickP [1,2,3,4,5,6,0,7]) ?_
   refine T.wk (fun w s=>oneSame 3 6 s rfl rfl (by decide) hf7.1 hf7.2.1 g8) ?_
   refine T.wk (fun w s=>(Sat.sP [1,7] [0,2,3,4,5] s (Pty_shut (x:=a0_s) ⟨(gs1,(some gg9,cc10),qh3,qg4,nl5,nh6),hf7.1,hf7.2.1,hf7.2.2⟩))) ?_
   obtain rfl:=sj H
   refine T.rt (Cont.ret1 rfl rfl fun w' s=>?_)
   exact ⟨rfl,s.pc [0,1]⟩
  refine T.skip (k4 _ _ ?_)
  refine T.seq fun _ k7=>nz ?_
  refine T.region (au 5 ?_)
  refine RS.exP (fun w s=>s.freeze 13 rfl) fun hh24 hz25=>?_
  obtain ⟨x26,hx26,H⟩:=bindE H
  refine RS.solid (Sd.callF 12 ent18 rfl rfl (fun w s=>eng_Step_walk xe16 ((gi a0_s.l a1_k).w) x19.1 hh24 (Held.rest 13 rfl (by decide) (Held.fz 0 rfl)) (drow_R hz25) hx26 w s)) rfl rfl fun q27=>RS.nil (k7 _ _ (kq [0,1,5,6] ?_))
  refine T.seq fun _ k8=>nz ?_
  refine T.region (au 4 ?_)
  obtain ⟨x28,hx28,H⟩:=bindE H
  refine RS.solid (Sd.callF 12 ent19 rfl rfl (fun w s=>eng_World_walk xe16 x26.2.2  hx28 w s)) rfl rfl fun ⟨q29,q30,q31⟩=>?_
  obtain ⟨x32,hx32,H⟩:=bindE H
  refine rq (Qt.call (vs:=[_]) ent161 rfl fun w s=>image_Sum_walk x28 w ((Rd.ofRowN 15 rfl) w s) ((Rd.ofRowN 16 rfl) w s) ((Rd.ofRowN 17 rfl) w s) hx32) (rA rfl (RS.nil (k8 _ _ (kq [0,1,5,6,9] ?_))))
  refine T.seq fun _ k9=>au 3 ?_
  refine T.joinE (σ:=List Frm) (γ:=(Option Nat × Nat)) H (fun s=>s) [(0,_),(1,_),(5,_),(9,_)] sb (fun v34 q35=>[]) (fun v34 q35=>Sat w0 [blk g0 [rowV (some gg9,cc10) nl5,vm,.slice none 0 0,rowV qh3 nh6,.slice none 0 0,.slice none 0 0,rowV q35 v34.length] 85,F,row nilH 92 (rowV (some gg9,cc10) nl5) gs1,OnesH gs1 a0_s.l a1_k,Hss_ch qh3 a0_s.hashes,drow 200 (rowV q35 v34.length) v34,blk (gi gs1 a1_k).a [.int .i64 (((gi a0_s.l a1_k).p).id),.int .i64 (((gi a0_s.l a1_k).p).players),.int .i64 (((gi a0_s.l a1_k).p).delay),.int .i64 (((gi a0_s.l a1_k).p).turn),.int .i64 (((gi a0_s.l a1_k).p).said),rowV qm11 (((gi a0_s.l a1_k).p).mine.length),rowV qi12 (((gi a0_s.l a1_k).p).inputs.length),rowV qh13 (((gi a0_s.l a1_k).p).has.length),rowV qa14 (((gi a0_s.l a1_k).p).acked.length),.slice p17 (((gi a0_s.l a1_k).p).hashes).length cc18,.bool (((gi a0_s.l a1_k).p).split),.pointer (some ⟨xe16,0,none⟩)] 94,drow 210 (rowV qm11 (((gi a0_s.l a1_k).p).mine.length)) (((gi a0_s.l a1_k).p).mine),drow 210 (rowV qi12 (((gi a0_s.l a1_k).p).inputs.length)) (((gi a0_s.l a1_k).p).inputs),row nilH 3 (rowV qh13 (((gi a0_s.l a1_k).p).has.length)) (((gi a0_s.l a1_k).p).has),row nilH 3 (rowV qa14 (((gi a0_s.l a1_k).p).acked.length)) (((gi a0_s.l a1_k).p).acked),osl 112 (.slice p17 (((gi a0_s.l a1_k).p).hashes).length cc18) (((gi a0_s.l a1_k).p).hashes),Eng_ch xe16 x26.2.2,dead,row nilH 45 (rowV q27 x26.1.length) x26.1,row nilH 5 (rowV q29 x28.g.tiles.length) x28.g.tiles,row nilH 135 (rowV q30 x28.bs.length) x28.bs,row nilH 54 (rowV q31 x28.us.length) x28.us]) ?_ ?_
  ·rintro v34 q35 H
   try dsimp only [Ex.then] at H
   refine Cont.kq [0,1,5,9] ?_
   refine id (k9 _ _ ?_)
   refine T.seq fun _ k11=>nz ?_
   refine T.region (au 6 ?_)
   obtain ⟨x36,hx36,H⟩:=bindE H
   refine RS.solid (Sd.callN (vs:=[_,_]) ent162 rfl (fun w s=>peer_Ran_walk ((gi a0_s.l a1_k).p) x32 w ((Rd.ofG 7 rfl) w s) ((Rd.ofG 8 rfl) w s) ((Rd.ofRowN 9 rfl) w s) ((Rd.ofRowN 10 rfl) w s) ((Rd.ofOsl 11 rfl) w s) hx36)) rfl rfl fun ⟨q37,q38,q39,q40,u41⟩=>?_
   refine RS.know (p:=∃ p c,u41 = .slice p x36.1.hashes.length c) (fun w s=>Sat.osl_form (k:=22) s rfl) ?_
   rintro ⟨p42,cc43,rfl⟩
   refine au 6 ?_
   refine RS.nil (k11 _ _ (kq [0,1,9] ?_))
   refine T.seq fun _ k12=>?_
   obtain ⟨g44,H⟩:=gdE H
   refine T.exP (fun w s=>hsPull 4 a1_k s rfl g44) fun hs45 hh46=>?_
   refine T.know (p:=∃ g cap,qh3 = (some g,cap)) (fun w s=>s.row_some (k:=4) rfl (pos_of (idx_of (hsl_len hh46).1.symm g44))) ?_
   rintro ⟨gg47,cc48,rfl⟩
   refine nz ?_
   refine drS mixed [0,1,2,3,5,6,7,8,9,10,11,12,13,14,15,16,17,18,19,20,21,22,23] [0,0,0,0,2,0,0,0,0,0,2,0,0,1,0,3,4,0,4] ?_
   refine au 12 ?_
   refine RD.p (fun w s=>s.pc [0,1,2,3,5,6,7,8,9,10,11,12,13,14,15,16,17,18,19,20,21,22,23]) rfl (Pu.indexSl sl39.h rfl rfl (idx_of hf7.2.2 g44)) rfl rfl (RD.q (fun w s=>s.pc [0,1,2,3,5,6,7,8,9,10,11,12,13,14,15,16,17,18,19,20,21,22,23]) rfl (Qt.ld0 (α:=Sl) (v:=rowV (gi hs45 a1_k).1 (gi a0_s.hashes a1_k).length) (Rd.ofRowN 4 rfl) ty87.h rfl rfl (idx_of (hsl_len hh46).1.symm g44) (fun h c hc=>by rw [hc,(hs_gi hh46 g44).2]; rfl)) rfl rfl (RD.p (fun w s=>s.pc [0,1,2,3,5,6,7,8,9,10,11,12,13,14,15,16,17,18,19,20,21,22,23]) rfl (Pu.move rfl) rfl rfl (RD.solid rfl (.inl rfl) rfl rfl (Sd.litS (cs:=[_]) sl87.h zr112 rfl rfl rfl rfl rfl) (fun _=>ClE.sat _ _) (fun _ w s=>s.pc [0,1,2,3,5,6,7,8,9,10,11,12,13,14,15,16,17,18,19,20,21,22,23]) (fun _ _ _ s=>s.drop1) fun b49=>?_)))
   obtain ⟨g51,H⟩:=gdE H
   refine RD.solid rfl (.inr rfl) rfl rfl (Sd.app1c (α:=UInt64) 24 25 x32 rfl rfl (nilH_lt _) sl87.h zr112 rfl rfl rfl rfl g51 (by decide)) (fun _=>ClE.sat _ _) (fun _ w s=>s.pc [0,1,2,3,5,6,7,8,9,10,11,12,13,14,15,16,17,18,19,20,21,22,23]) (fun h=>nomatch h) fun q50=>?_
   refine RD.p (fun w s=>s.pc [0,1,2,3,5,6,7,8,9,10,11,12,13,14,15,16,17,18,19,20,21,22,23]) rfl (Pu.indexSl sl39.h rfl rfl (idx_of hf7.2.2 g44)) rfl rfl (RD.solid rfl (.inr rfl) rfl rfl (Sd.st0 (α:=Sl) 4 (⟨q50,((gi a0_s.hashes a1_k) ++ [x32]).length⟩:Sl) rfl ty87.h rfl rfl rfl (idx_of (hsl_len hh46).1.symm g44) rfl rfl (by decide) rfl (by rintro _ _ rfl; rfl)) (fun _=>ClE.sat _ _) (fun _ w s=>s.pc [0,1,2,3,5,6,7,8,9,10,11,12,13,14,15,16,17,18,19,20,21,22,23]) (fun h=>nomatch h) fun _=>?_)
   refine RD.nil (k12 _ _ (kq [] ?_))
   refine au 2 ?_
   refine T.wk (fun w s=>hsPush (q:=(some gg47,cc48)) 4 23 24 s rfl rfl rfl (by decide) hh46 g44) ?_
   refine T.wk (fun w s=>((Sat.sP [0,1,2,3,4,5,7,8,9,10,11,14,15,16,17,25] [6,18,19,20,21,22,12] s (One_shut (x:=(⟨x36.1,x26.2.2⟩:One)) ⟨q37,q38,q39,q40,(.slice p42 x36.1.hashes.length cc43),xe16⟩))).pickP [1,2,3,4,5,6,0,7,8,9,10,11,12,13,14,15,16]) ?_
   refine T.wk (fun w s=>onePush 3 6 s rfl rfl (by decide) hf7.1 hf7.2.1 g8) ?_
   refine T.wk (fun w s=>(Sat.sP [1,7,8,9,10,11,12,13,14,15,16] [0,2,3,4,5] s (Pty_shut (x:=(⟨(si a0_s.l a1_k (⟨x36.1,x26.2.2⟩:One)),(si a0_s.hashes a1_k ((gi a0_s.hashes a1_k) ++ [x32])),v34⟩:Pty)) ⟨(gs1,(some gg9,cc10),(some gg47,cc48),q35,nl5,nh6),hf7.1,(len_si' hf7.2.1),(len_si' hf7.2.2)⟩))) ?_
   obtain rfl:=sj H
   refine nz ?_
   refine T.rt (Cont.ret1 rfl rfl fun w' s=>?_)
   exact ⟨rfl,s.pc [0,1]⟩
  intro z33 H HX33 hJ33
  refine T.cP H rfl (fun hc52 H=>?_) (fun hc52 H=>?_)
  ·refine nz ?_
   refine drS mixed [1,2,3,4,6,7,8,9,10,11,12,14,15,16,17] [0,0,0,0,0,1,0,0,0,0,2,0,0,0,3,4,0,0,0,4] ?_
   refine au 13 ?_
   refine RD.p (fun w s=>s.pc [1,2,3,4,6,7,8,9,10,11,12,14,15,16,17]) rfl (Pu.build (cells:=[_,_,_]) st200 rfl rfl) rfl rfl (RD.solid rfl (.inl rfl) rfl rfl (Sd.litS (cs:=[_,_,_]) sl42.h zr200 rfl rfl rfl rfl rfl) (fun _=>ClE.sat _ _) (fun _ w s=>s.pc [1,2,3,4,6,7,8,9,10,11,12,14,15,16,17]) (fun _ _ _ s=>s.drop1) fun b53=>?_)
   obtain ⟨g55,H⟩:=gdE H
   dsimp only [List.set,List.cons_append,List.nil_append,List.append_assoc]
   refine RD.solid rfl (.inr rfl) rfl rfl (Sd.pre (fun w s=>(Sat.starAt 13 19 (Sat.starAt 13 20 (Sat.thaw hz25 13 rfl ((s.noStars).noStars)) rfl rfl (by decide)) rfl rfl (by decide))) (Sd.appL (α:=Frm) 5 18 13 ([(⟨((gi a0_s.l a1_k).p).turn,x19.1,x32⟩:Frm)]:List Frm) rfl rfl rfl (DRF.cons' (α:=Frm) (x:=(⟨((gi a0_s.l a1_k).p).turn,x19.1,x32⟩:Frm)) (fun _ h=>⟨_,rfl,h⟩) DRF.nil') rfl sl42.h zr200 rfl rfl rfl rfl g55 (by decide))) (fun _=>ClE.sat _ _) (fun _ w s=>s.pc [1,2,3,4,6,7,8,9,10,11,12,14,15,16,17]) (fun h=>nomatch h) fun q54=>?_
   dsimp only [List.set,List.cons_append,List.nil_append,List.append_assoc]
   refine au 4 ?_
   obtain rfl:=sj H
   refine RD.nil (hJ33 _ _ (a0_s.log ++ ([(⟨((gi a0_s.l a1_k).p).turn,x19.1,x32⟩:Frm)]:List Frm)) q54 HX33 sb trivial (fun w s=>(s.deadRow).pick [0,1,2,3,4,5,6,7,8,9,10,11,12,21,14,15,16,17] (by decide) rfl))
  obtain rfl:=sj H
  refine T.skip (hJ33 _ _ a0_s.log qg4 HX33 sb trivial (fun w s=>(s.deadRow).pick [0,1,2,3,4,5,6,7,8,9,10,11,12,18,14,15,16,17] (by decide) rfl))
 intro hJ22
 refine RS.splitP 28 rfl (fun hc21=>?_) (fun hc21=>?_)
 ·refine au 3 ?_
  exact hJ22 _ _ ⟨dOrT hc21,rfl,rfl,rfl,rfl,trivial⟩ (fun w s=>s)
 refine au 3 ?_
 exact hJ22 _ _ ⟨dOrFB hc21,rfl,rfl,rfl,rfl,trivial⟩ (fun w s=>s)
theorem session_party_comes_walk {w0:World} {F:Ch} (g0:Nat) (vm:Value) (a0_s:Pty) (a1_n:Nte) {v0:Value} (h0:Rd (Sat w0 [F]) a1_n.input.commands [v0]) {r:Pty} (H:session_party_comes a0_s a1_n = some r) (w:World) (s:Sat w0 [Pty_ch g0 vm a0_s,F] w):Calls Tryz.prog 109 #[.pointer (some ⟨g0,0,none⟩),.agg #[.int .i64 a1_n.frm,.int .i64 a1_n.dst,.int .i64 a1_n.input.turn,.int .i64 a1_n.input.player,v0,.int .i64 a1_n.don,.int .u64 (a1_n.hash.toNat:Int),.int .i64 a1_n.hav]] w fun e w'=>e = .returned (.tuple #[])∧Sat w0 [Pty_ch g0 vm r,F] w':=by
 have hm0:=R_max (h0 w (s.pc [1]))
 obtain ⟨p0,c0,rfl⟩:=R_form (h0 w (s.pc [1]))
 unfold session_party_comes at H
 refine te Tryz.func109 s ?_
 refine T.seq fun _ k1=>T.region (RS.solid (Sd.box (cs:=[_,_,_,_,_,_,_,_]) rfl rfl) rfl rfl fun b1=>RS.nil (k1 _ _ ?_))
 refine T.seq fun _ k2=>?_
 refine T.ex (fun w s=>Pty_open 0 rfl s) ?_
 rintro ⟨⟨gs2,ql3,qh4,qg5,nl6,nh7⟩,hf8⟩
 refine nz ?_
 obtain ⟨g9,H⟩:=gdE H
 refine T.know (p:=∃ g cap,ql3 = (some g,cap)) (fun w s=>s.row_some (k:=3) rfl (pos_of (idx_of (hf8.2.1.trans hf8.1.symm) g9))) ?_
 rintro ⟨gg10,cc11,rfl⟩
 refine T.wk (fun w s=>onePull 4 (a1_n.dst - 1) s rfl hf8.1 hf8.2.1 g9) ?_
 refine T.ex (fun w s=>One_open 7 rfl s) ?_
 rintro ⟨qm12,qi13,qh14,qa15,vh16,xe17⟩
 refine nz ?_
 refine T.know (p:=∃ p c,vh16 = .slice p (((gi a0_s.l (a1_n.dst - 1)).p).hashes).length c) (fun w s=>Sat.osl_form (k:=12) s rfl) ?_
 rintro ⟨p18,cc19,rfl⟩
 refine nz ?_
 refine T.drawnT (fun _=>True) [(0,.pu),(1,.pu),(2,.pu),(3,.rd),(4,.pu),(5,.rd),(6,.pu),(7,.pu),(8,.rd),(9,.pu),(10,.pu),(11,.rd),(12,.rd),(13,.so),(14,.pu),(15,.pu),(16,.pu),(17,.so),(18,.br),(19,.pu)] (.st 0 .pu (.st 1 .pu (.st 2 .pu (.st 3 .rd (.st 4 .pu (.st 5 .rd (.st 6 .pu (.st 7 .pu (.st 8 .rd (.st 9 .pu (.st 10 .pu (.st 11 .rd (.st 12 .rd (.two 13 .so (.st 14 .pu (.st 15 .pu (.st 16 .pu (.st 17 .so (.st 18 .br (.st 19 .pu .nil)))))) 17 .so (.st 13 .so (.st 14 .pu (.st 15 .pu (.st 16 .pu (.st 18 .br (.st 19 .pu .nil)))))))))))))))))))) mixed (ClE.sat _ _) (by kernel_rfl) ?_
 refine RT.p (fun _ _=>trivial) rfl (Pu.move rfl) rfl rfl (RT.p (fun _ _=>trivial) rfl (Pu.nilCheck rfl) rfl rfl (RT.p (fun _ _=>trivial) rfl (Pu.fieldAddr fd85_0.h rfl) rfl rfl (RT.q (fun _ _=>trivial) rfl (Qt.ldB 0 ty82.h rfl rfl rfl) rfl rfl (RT.p (fun _ _=>trivial) rfl (Pu.fieldAddr fd212_1.h rfl) rfl rfl (RT.q (fun _ _=>trivial) rfl (Qt.ldB 2 ty3.h rfl rfl rfl) rfl rfl ?_)))))
 obtain ⟨g20,H⟩:=gdE H
 refine RT.p (fun _ _=>trivial) rfl (Pu.subS rfl rfl g20) rfl rfl ?_
 obtain ⟨g21,H⟩:=gdE H
 refine RT.p (fun _ _=>trivial) rfl (Pu.indexSl sl82.h rfl rfl (idx_of hf8.2.1 g21)) rfl rfl (RT.q (fun _ _=>trivial) rfl (Qt.ld0 (α:=Pt) (Rd.ofRowN 3 rfl) ty92.h rfl rfl (idx_of (hf8.2.1.trans hf8.1.symm) g21) (by rintro _ _ rfl; rfl)) rfl rfl (RT.p (fun _ _=>trivial) rfl (Pu.nilCheck rfl) rfl rfl (RT.p (fun _ _=>trivial) rfl (Pu.fieldAddr fd94_0.h rfl) rfl rfl (RT.q (fun _ _=>trivial) rfl (Qt.ldBA (us:=[_,_,_,_,_,_,_,_,_,_,_]) 7 ty89.h rfl rfl rfl rfl) rfl rfl (RT.q (fun _ _=>trivial) rfl (Qt.ldBA (us:=[_,_,_,_,_,_,_,_]) 2 ty212.h rfl rfl rfl rfl) rfl rfl ?_)))))
 obtain ⟨x22,hx22,H⟩:=bindE H
 refine RT.two ?_ ?_
 ·refine RT1.solid rfl (.inl rfl) rfl rfl (Sd.callN (vs:=[_,_]) ent163 rfl (fun w s=>peer_Take_walk ((gi a0_s.l (a1_n.dst - 1)).p) a1_n w ((Rd.ofG 8 rfl) w s) ((Rd.ofG 9 rfl) w s) ((Rd.ofRowN 10 rfl) w s) ((Rd.ofRowN 11 rfl) w s) ((Rd.ofOsl 12 rfl) w s) ((Rd.ofFrame 1 rfl h0) w s) hx22)) (fun _=>ClE.sat _ _) (fun _ _ _=>trivial) (fun _ _ _ s=>s.drop1) fun ⟨q222,q223,q224,q225,q226⟩=>?_
  refine RT.p (fun _ _=>trivial) rfl (Pu.move rfl) rfl rfl (RT.p (fun _ _=>trivial) rfl (Pu.extract rfl rfl) rfl rfl (RT.p (fun _ _=>trivial) rfl (Pu.extract rfl rfl) rfl rfl (RT.solid rfl (.inl rfl) rfl rfl (Sd.alloc zr89 rfl) (fun _=>ClE.sat _ _) (fun _ _ _=>trivial) (fun _ _ _ s=>s.drop1) fun b227=>?_)))
  refine RT.solid rfl (.inr rfl) rfl rfl (Sd.stB (cs':=[_,_,_,_,_,_,_,_,_,_,_]) 19 ty89.h rfl rfl rfl rfl rfl rfl rfl rfl) (fun _=>ClE.sat _ _) (fun _ _ _=>trivial) (fun h=>nomatch h) fun _=>?_
  refine RT.p (fun _ _=>trivial) rfl (Pu.assign rfl) rfl rfl (RT.nil (k2 _ _ (kq [0,3,4,5] ?_)))
  refine au 3 ?_
  refine T.cP H rfl (fun hc228 H=>?_) (fun hc228 H=>?_)
  ·refine kq [0,3,4] ?_
   refine nz ?_
   refine dr mixed [0,0,0,1,0,1,0,0,1,1,0,0,4] ?_
   refine au 6 ?_
   obtain ⟨g229,H⟩:=gdE H
   refine dp rfl (Pu.subS rfl rfl g229) ?_
   obtain ⟨g230,H⟩:=gdE H
   refine dp rfl (Pu.indexSl sl82.h rfl rfl (idx_of hf8.2.1 g230)) (dq rfl (Qt.ld0 (α:=Pt) (Rd.ofRowN 3 rfl) ty92.h rfl rfl (idx_of (hf8.2.1.trans hf8.1.symm) g230) (by rintro _ _ rfl; rfl)) (au 4 ?_))
   refine RD.nil ?_
   refine Cont.wk (fun w s=>((Sat.sP [0,1,2,3,4,5,6,8,9,10,11,12,19] [7,14,15,16,17,18,13] (Sat.rowOsl (q:=q226) (m:=x22.1.hashes.length) 18 s rfl) (One_shut (x:=(⟨x22.1,(gi a0_s.l (a1_n.dst - 1)).w⟩:One)) ⟨q222,q223,q224,q225,(rowV q226 x22.1.hashes.length),xe17⟩))).pickP [1,2,3,4,5,6,7,0,8,9,10,11,12,13]) ?_
   refine Cont.wk (fun w s=>onePush 4 7 s rfl rfl (by decide) hf8.1 hf8.2.1 g9) ?_
   refine Cont.wk (fun w s=>(Sat.sP [1,2,8,9,10,11,12,13] [0,3,4,5,6] s (Pty_shut (x:=(⟨(si a0_s.l (a1_n.dst - 1) (⟨x22.1,(gi a0_s.l (a1_n.dst - 1)).w⟩:One)),a0_s.hashes,a0_s.log⟩:Pty)) ⟨(gs2,(some gg10,cc11),qh4,qg5,nl6,nh7),hf8.1,(len_si' hf8.2.1),hf8.2.2⟩))) ?_
   obtain rfl:=sj H
   refine id ?_
   repeat with_reducible refine Cont.inB ?_
   refine Cont.end0 rfl fun w' s=>?_
   exact ⟨rfl,s.pc [0,1]⟩
  refine T.skip ?_
  refine Cont.wk (fun w s=>((Sat.sP [0,1,2,3,4,5,6,14,15,16,17,18,19] [7,8,9,10,11,12,13] s (One_shut (x:=(gi a0_s.l (a1_n.dst - 1))) ⟨qm12,qi13,qh14,qa15,(.slice p18 (((gi a0_s.l (a1_n.dst - 1)).p).hashes).length cc19),xe17⟩))).pickP [1,2,3,4,5,6,7,0,8,9,10,11,12,13]) ?_
  refine Cont.wk (fun w s=>oneSame 4 7 s rfl rfl (by decide) hf8.1 hf8.2.1 g9) ?_
  refine Cont.wk (fun w s=>(Sat.sP [1,2,8,9,10,11,12,13] [0,3,4,5,6] s (Pty_shut (x:=a0_s) ⟨(gs2,(some gg10,cc11),qh4,qg5,nl6,nh7),hf8.1,hf8.2.1,hf8.2.2⟩))) ?_
  obtain rfl:=sj H
  refine id ?_
  repeat with_reducible refine Cont.inB ?_
  refine Cont.end0 rfl fun w' s=>?_
  exact ⟨rfl,s.pc [0,1]⟩
 refine RT1.solid rfl (.inl rfl) rfl rfl (Sd.alloc zr89 rfl) (fun _=>ClE.sat _ _) (fun _ _ _=>trivial) (fun _ _ _ s=>s.drop1) fun b231=>?_
 refine RT.solid rfl (.inl rfl) rfl rfl (Sd.callN (vs:=[_,_]) ent163 rfl (fun w s=>peer_Take_walk ((gi a0_s.l (a1_n.dst - 1)).p) a1_n w ((Rd.ofG 8 rfl) w s) ((Rd.ofG 9 rfl) w s) ((Rd.ofRowN 10 rfl) w s) ((Rd.ofRowN 11 rfl) w s) ((Rd.ofOsl 12 rfl) w s) ((Rd.ofFrame 1 rfl h0) w s) hx22)) (fun _=>ClE.sat _ _) (fun _ _ _=>trivial) (fun _ _ _ s=>s.drop1) fun ⟨q232,q233,q234,q235,q236⟩=>?_
 refine RT.p (fun _ _=>trivial) rfl (Pu.move rfl) rfl rfl (RT.p (fun _ _=>trivial) rfl (Pu.extract rfl rfl) rfl rfl (RT.p (fun _ _=>trivial) rfl (Pu.extract rfl rfl) rfl rfl (RT.solid rfl (.inr rfl) rfl rfl (Sd.stB (cs':=[_,_,_,_,_,_,_,_,_,_,_]) 14 ty89.h rfl rfl rfl rfl rfl rfl rfl rfl) (fun _=>ClE.sat _ _) (fun _ _ _=>trivial) (fun h=>nomatch h) fun _=>?_)))
 refine RT.p (fun _ _=>trivial) rfl (Pu.assign rfl) rfl rfl (RT.nil (k2 _ _ (kq [0,3,4,5] ?_)))
 refine au 3 ?_
 refine T.cP H rfl (fun hc237 H=>?_) (fun hc237 H=>?_)
 ·refine kq [0,3,4] ?_
  refine nz ?_
  refine dr mixed [0,0,0,1,0,1,0,0,1,1,0,0,4] ?_
  refine au 6 ?_
  obtain ⟨g238,H⟩:=gdE H
  refine dp rfl (Pu.subS rfl rfl g238) ?_
  obtain ⟨g239,H⟩:=gdE H
  refine dp rfl (Pu.indexSl sl82.h rfl rfl (idx_of hf8.2.1 g239)) (dq rfl (Qt.ld0 (α:=Pt) (Rd.ofRowN 3 rfl) ty92.h rfl rfl (idx_of (hf8.2.1.trans hf8.1.symm) g239) (by rintro _ _ rfl; rfl)) (au 4 ?_))
  refine RD.nil ?_
  refine Cont.wk (fun w s=>((Sat.sP [0,1,2,3,4,5,6,8,9,10,11,12,14] [7,15,16,17,18,19,13] (Sat.rowOsl (q:=q236) (m:=x22.1.hashes.length) 19 s rfl) (One_shut (x:=(⟨x22.1,(gi a0_s.l (a1_n.dst - 1)).w⟩:One)) ⟨q232,q233,q234,q235,(rowV q236 x22.1.hashes.length),xe17⟩))).pickP [1,2,3,4,5,6,7,0,8,9,10,11,12,13]) ?_
  refine Cont.wk (fun w s=>onePush 4 7 s rfl rfl (by decide) hf8.1 hf8.2.1 g9) ?_
  refine Cont.wk (fun w s=>(Sat.sP [1,2,8,9,10,11,12,13] [0,3,4,5,6] s (Pty_shut (x:=(⟨(si a0_s.l (a1_n.dst - 1) (⟨x22.1,(gi a0_s.l (a1_n.dst - 1)).w⟩:One)),a0_s.hashes,a0_s.log⟩:Pty)) ⟨(gs2,(some gg10,cc11),qh4,qg5,nl6,nh7),hf8.1,(len_si' hf8.2.1),hf8.2.2⟩))) ?_
  obtain rfl:=sj H
  refine id ?_
  repeat with_reducible refine Cont.inB ?_
  refine Cont.end0 rfl fun w' s=>?_
  exact ⟨rfl,s.pc [0,1]⟩
 refine T.skip ?_
 refine Cont.wk (fun w s=>((Sat.sP [0,1,2,3,4,5,6,14,15,16,17,18,19] [7,8,9,10,11,12,13] s (One_shut (x:=(gi a0_s.l (a1_n.dst - 1))) ⟨qm12,qi13,qh14,qa15,(.slice p18 (((gi a0_s.l (a1_n.dst - 1)).p).hashes).length cc19),xe17⟩))).pickP [1,2,3,4,5,6,7,0,8,9,10,11,12,13]) ?_
 refine Cont.wk (fun w s=>oneSame 4 7 s rfl rfl (by decide) hf8.1 hf8.2.1 g9) ?_
 refine Cont.wk (fun w s=>(Sat.sP [1,2,8,9,10,11,12,13] [0,3,4,5,6] s (Pty_shut (x:=a0_s) ⟨(gs2,(some gg10,cc11),qh4,qg5,nl6,nh7),hf8.1,hf8.2.1,hf8.2.2⟩))) ?_
 obtain rfl:=sj H
 refine id ?_
 repeat with_reducible refine Cont.inB ?_
 refine Cont.end0 rfl fun w' s=>?_
 exact ⟨rfl,s.pc [0,1]⟩
theorem session_party_tick_walk {w0:World} {F:Ch} (g0:Nat) (a0_s:Par) (a1_k:Int) {r:Par} (H:session_party_tick a0_s a1_k = some r) (w:World) (s:Sat w0 [Par_ch g0 a0_s,F] w):Calls Tryz.prog 60 #[.pointer (some ⟨g0,0,none⟩),.int .i64 a1_k] w fun e w'=>e = .returned (.tuple #[])∧Sat w0 [Par_ch g0 r,F] w':=by
 unfold session_party_tick at H
 refine te Tryz.func60 s ?_
 refine T.seq fun _ k1=>T.region (au 2 ?_)
 refine RS.ex (fun w s=>Par_open 0 rfl s) ?_
 rintro ⟨q1,hA2⟩
 refine nz ?_
 refine RS.ex (fun w s=>Pty_open 0 rfl s) ?_
 rintro ⟨⟨gs3,ql4,qh5,qg6,nl7,nh8⟩,hf9⟩
 refine au 3 ?_
 obtain ⟨g10,H⟩:=gdE H
 refine RS.know (p:=∃ g cap,ql4 = (some g,cap)) (fun w s=>s.row_some (k:=4) rfl (pos_of (idx_of (hf9.2.1.trans hf9.1.symm) g10))) ?_
 rintro ⟨gg11,cc12,rfl⟩
 refine rp (Pu.indexSl sl82.h rfl rfl (idx_of hf9.2.1 g10)) ?_
 refine RS.wk (fun w s=>onePull 5 a1_k s rfl hf9.1 hf9.2.1 g10) ?_
 refine rq (Qt.ld0 (α:=Pt) (Rd.ofRowN 4 rfl) ty92.h rfl rfl (idx_of (hf9.2.1.trans hf9.1.symm) g10) (by rintro _ _ rfl; rfl)) (rp (Pu.nilCheck rfl) ?_)
 refine RS.ex (fun w s=>One_open 8 rfl s) ?_
 rintro ⟨qm13,qi14,qh15,qa16,vh17,xe18⟩
 refine nz ?_
 refine RS.know (p:=∃ p c,vh17 = .slice p (((gi a0_s.c.l a1_k).p).hashes).length c) (fun w s=>Sat.osl_form (k:=13) s rfl) ?_
 rintro ⟨p19,cc20,rfl⟩
 refine au 2 ?_
 obtain ⟨x21,hx21,H⟩:=bindE H
 refine RS.solid (Sd.callN (vs:=[_]) ent106 rfl (fun w s=>peer_Notes_walk ((gi a0_s.c.l a1_k).p) w ((Rd.ofG 9 rfl) w s) ((Rd.ofG 10 rfl) w s) ((Rd.ofRowN 11 rfl) w s) ((Rd.ofRowN 12 rfl) w s) ((Rd.ofOsl 13 rfl) w s) hx21)) rfl rfl fun q22=>au 5 ?_
 refine RS.nil (k1 _ _ (kq [0,1,4] ?_))
 refine T.seq fun _ k2=>nz ?_
 refine T.region (au 6 ?_)
 obtain ⟨g24,H⟩:=gdE H
 refine RS.solid (Sd.absorb (F:=fun hA25=>[blk g0 [rowV (some gg11,cc12) nl7,rowV q1 a0_s.m.length,.slice none 0 0,rowV qh5 nh8,.slice none 0 0,.slice none 0 0,rowV qg6 a0_s.c.log.length] 85,F,rowG (FA hA25) 212 (rowV q1 a0_s.m.length) a0_s.m,fz hA25,row nilH 92 (rowV (some gg11,cc12) nl7) gs3,OnesH gs3 a0_s.c.l a1_k,Hss_ch qh5 a0_s.c.hashes,drow 200 (rowV qg6 a0_s.c.log.length) a0_s.c.log,blk (gi gs3 a1_k).a [.int .i64 (((gi a0_s.c.l a1_k).p).id),.int .i64 (((gi a0_s.c.l a1_k).p).players),.int .i64 (((gi a0_s.c.l a1_k).p).delay),.int .i64 (((gi a0_s.c.l a1_k).p).turn),.int .i64 (((gi a0_s.c.l a1_k).p).said),rowV qm13 (((gi a0_s.c.l a1_k).p).mine.length),rowV qi14 (((gi a0_s.c.l a1_k).p).inputs.length),rowV qh15 (((gi a0_s.c.l a1_k).p).has.length),rowV qa16 (((gi a0_s.c.l a1_k).p).acked.length),.slice p19 (((gi a0_s.c.l a1_k).p).hashes).length cc20,.bool (((gi a0_s.c.l a1_k).p).split),.pointer (some ⟨xe18,0,none⟩)] 94,drow 210 (rowV qm13 (((gi a0_s.c.l a1_k).p).mine.length)) (((gi a0_s.c.l a1_k).p).mine),drow 210 (rowV qi14 (((gi a0_s.c.l a1_k).p).inputs.length)) (((gi a0_s.c.l a1_k).p).inputs),row nilH 3 (rowV qh15 (((gi a0_s.c.l a1_k).p).has.length)) (((gi a0_s.c.l a1_k).p).has),row nilH 3 (rowV qa16 (((gi a0_s.c.l a1_k).p).acked.length)) (((gi a0_s.c.l a1_k).p).acked),osl 112 (.slice p19 (((gi a0_s.c.l a1_k).p).hashes).length cc20) (((gi a0_s.c.l a1_k).p).hashes),Eng_ch xe18 ((gi a0_s.c.l a1_k).w),dead]) (fun w s=>s) 3 15 rfl rfl (by decide) (fun hA25 hle w s=>(Sat.faUp 2 hle s rfl)) (fun hA25 ⟨st26le,_,st26a0,st26p⟩=>Sd.appFA (α:=Nte) 2 x21.1 rfl (Rd2.arena (Held.fz 3 rfl) (Enc.mono st26p (drow_R st26a0))) sl83.h zr212 rfl rfl rfl (Nat.lt_of_lt_of_le g24 (by decide)) (Nat.le_trans (Nat.mul_le_mul_right _ (Nat.le_of_lt g24)) (by decide)))) rfl rfl fun ⟨hA25,q23⟩=>?_
 try dsimp only
 refine au 3 ?_
 refine RS.nil (k2 _ _ (kq [0,1] ?_))
 refine au 2 ?_
 refine T.wk (fun w s=>((Sat.sP [0,1,2,3,4,5,6,7] [8,9,10,11,12,13,14] s (One_shut (x:=(gi a0_s.c.l a1_k)) ⟨qm13,qi14,qh15,qa16,(.slice p19 (((gi a0_s.c.l a1_k).p).hashes).length cc20),xe18⟩))).pickP [1,2,3,4,5,6,7,8,0]) ?_
 refine T.wk (fun w s=>oneSame 5 8 s rfl rfl (by decide) hf9.1 hf9.2.1 g10) ?_
 refine T.wk (fun w s=>(Sat.sP [1,2,3] [0,4,5,6,7] s (Pty_shut (x:=a0_s.c) ⟨(gs3,(some gg11,cc12),qh5,qg6,nl7,nh8),hf9.1,hf9.2.1,hf9.2.2⟩))) ?_
 refine T.wk (fun w s=>(Sat.sP [1] [0,2,3] s (Par_shut (x:=(⟨a0_s.c,(a0_s.m ++ x21.1)⟩:Par)) (q23,hA25)))) ?_
 refine T.joinE (σ:=Par) (γ:=Unit) H (fun s=>s) [] trivial (fun v28 _=>[]) (fun v28 _=>Sat w0 [Par_ch g0 v28,F]) ?_ ?_
 ·rintro v28 ⟨⟩ H
  try dsimp only [Ex.then] at H
  refine Cont.kq [] ?_
  obtain rfl:=sj H
  refine id ?_
  repeat with_reducible refine Cont.inB ?_
  refine Cont.end0 rfl fun w' s=>?_
  exact ⟨rfl,s.pc [0,1]⟩
 intro z27 hz27 HX27 hJ27
 refine T.block ?_
 refine T.loopA (γ:=Unit) hz27 [(0,_),(1,_)] (fun (v29,v30) _=>[(6,.int .i64 v29)]) (fun (v29,v30) _=>Sat w0 [Par_ch g0 v30,F]) () sb sb (fun w s=>s) ?_
 rintro ⟨v29,v30⟩ ⟨⟩ y31 H hd27 KL27 hL27
 try dsimp only [Ex.then] at H
 refine kq [6,0,1] ?_
 refine T.seq fun _ k4=>T.seq fun _ k5=>T.region (au 3 ?_)
 refine RS.splitP 32 rfl (fun hc32=>?_) (fun hc32=>?_)
 ·have H:=ifT hc32 H
  refine au 2 ?_
  refine RS.ex (fun w s=>Par_open 0 rfl s) ?_
  rintro ⟨q33,hA34⟩
  refine nz ?_
  obtain ⟨x35,hx35,H⟩:=bindE H
  refine RS.solid (Sd.callF0 0 ent107 rfl rfl (fun w s=>session_party_run_walk g0 (rowV q33 v30.m.length) v30.c a1_k  hx35 w s)) rfl rfl fun _=>rp (Pu.pickT rfl rfl) (RS.nil (k5 _ _ ?_))
  refine T.cB H rfl (fun hc36 H=>?_) (fun hc36 H=>?_)
  ·refine T.skip (k4 _ _ (kq [0,1,6] ?_))
   refine T.seq fun _ k6=>T.block ?_
   refine T.skip (k6 _ _ ?_)
   refine T.region (rM rfl ?_)
   obtain ⟨g37,H⟩:=gdE H
   refine rp (Pu.addS rfl rfl g37) (rA rfl (RS.nil ?_))
   refine Cont.wk (fun w s=>(Sat.sP [1] [0,2,3] s (Par_shut (x:=(⟨x35.2,v30.m⟩:Par)) (q33,hA34)))) ?_
   refine id (hL27 _ _ ((v29 + 1),(⟨x35.2,v30.m⟩:Par)) () H sb sb (fun w s=>s))
  refine T.xt ?_
  refine Cont.wk (fun w s=>(Sat.sP [1] [0,2,3] s (Par_shut (x:=(⟨x35.2,v30.m⟩:Par)) (q33,hA34)))) ?_
  obtain rfl:=hd27 _ H
  refine id (hJ27 _ _ (⟨x35.2,v30.m⟩:Par) () HX27 trivial trivial (fun w s=>s))
 have H:=ifF hc32 H
 refine au 4 ?_
 refine RS.nil (k5 _ _ ?_)
 refine T.condF rfl ?_
 refine T.xt ?_
 obtain rfl:=hd27 _ H
 refine id (hJ27 _ _ v30 () HX27 trivial trivial (fun w s=>s))
theorem session_party_calm_walk {w0:World} {F:Ch} (g0:Nat) (a0_s:Par) {r:Par} (H:session_party_calm a0_s = some r) (w:World) (s:Sat w0 [Par_ch g0 a0_s,F] w):Calls Tryz.prog 62 #[.pointer (some ⟨g0,0,none⟩)] w fun e w'=>e = .returned (.tuple #[])∧Sat w0 [Par_ch g0 r,F] w':=by
 unfold session_party_calm at H
 refine te Tryz.func62 s ?_
 refine T.seq fun _ k1=>T.seq fun _ k2=>T.region (au 2 ?_)
 refine RS.ex (fun w s=>Par_open 0 rfl s) ?_
 rintro ⟨q1,hA2⟩
 refine nz ?_
 refine RS.ex (fun w s=>Pty_open 0 rfl s) ?_
 rintro ⟨⟨gs3,ql4,qh5,qg6,nl7,nh8⟩,hf9⟩
 refine au 2 ?_
 refine rp (lenOnes sl82.h rfl hf9.2.1) (rM rfl (RS.nil (k2 _ _ (kq [0,10,11] ?_))))
 refine T.wk (fun w s=>(Sat.sP [1,2,3] [0,4,5,6,7] s (Pty_shut (x:=a0_s.c) ⟨(gs3,ql4,qh5,qg6,nl7,nh8),hf9.1,hf9.2.1,hf9.2.2⟩))) ?_
 refine T.wk (fun w s=>(Sat.sP [1] [0,2,3] s (Par_shut (x:=a0_s) (q1,hA2)))) ?_
 refine T.joinE (σ:=Par) (γ:=Unit) H (fun s=>s) [(0,_)] sb (fun v11 _=>[]) (fun v11 _=>Sat w0 [Par_ch g0 v11,F]) ?_ ?_
 ·rintro v11 ⟨⟩ H
  try dsimp only [Ex.then] at H
  refine Cont.kq [0] ?_
  refine id (k1 _ _ ?_)
  refine T.seq fun _ k3=>T.region (au 2 ?_)
  refine RS.ex (fun w s=>Par_open 0 rfl s) ?_
  rintro ⟨q12,hA13⟩
  refine nz ?_
  refine RS.ex (fun w s=>Pty_open 0 rfl s) ?_
  rintro ⟨⟨gs14,ql15,qh16,qg17,nl18,nh19⟩,hf20⟩
  refine au 3 ?_
  refine RS.nil (k3 _ _ (kq [0,3] ?_))
  refine T.seq fun _ k4=>nz ?_
  refine T.region (au 4 ?_)
  refine RS.nil (k4 _ _ (kq [0,3] ?_))
  refine au 4 ?_
  refine T.wk (fun w s=>(Sat.sP [1,2,3] [0,4,5,6,7] s (Pty_shut (x:=v11.c) ⟨(gs14,ql15,qh16,qg17,nl18,nh19),hf20.1,hf20.2.1,hf20.2.2⟩))) ?_
  refine T.joinE (σ:=Pty) (γ:=Unit) H (fun s=>s) [] trivial (fun v22 _=>[]) (fun v22 _=>Sat w0 [Pty_ch g0 (.slice none 0 0) v22,F,rowG (FA hA13) 212 (rowV q12 v11.m.length) v11.m,fz hA13]) ?_ ?_
  ·rintro v22 ⟨⟩ H
   try dsimp only [Ex.then] at H
   refine Cont.kq [] ?_
   refine id ?_
   refine Cont.wk (fun w s=>(Sat.sP [1] [0,4,3] (s.nilRowA (α:=Nte) (B:=hA13) 212) (Par_shut (x:=(⟨v22,([]:List Nte)⟩:Par)) ((none,0),hA13)))) ?_
   obtain rfl:=sj H
   refine id ?_
   repeat with_reducible refine Cont.inB ?_
   refine Cont.end0 rfl fun w' s=>?_
   exact ⟨rfl,s.pc [0,1]⟩
  intro z21 hz21 HX21 hJ21
  refine T.block ?_
  refine T.loopA (γ:=Unit) hz21 [(0,_),(25,_),(26,_)] (fun (v23,v24) _=>[(27,.int .i64 v23)]) (fun (v23,v24) _=>Sat w0 [Pty_ch g0 (.slice none 0 0) v24,F,rowG (FA hA13) 212 (rowV q12 v11.m.length) v11.m,fz hA13]) () sb sb (fun w s=>s) ?_
  rintro ⟨v23,v24⟩ ⟨⟩ y25 H hd21 KL21 hL21
  try dsimp only [Ex.then] at H
  refine kq [27,0,25,26] ?_
  refine au 2 ?_
  refine T.seq fun _ k7=>?_
  refine T.cP H rfl (fun hc26 H=>?_) (fun hc26 H=>?_)
  ·refine T.skip (k7 _ _ ?_)
   refine T.seq fun _ k8=>T.block (T.seq fun _ k9=>T.region ?_)
   obtain ⟨g27,H⟩:=gdE H
   refine RS.know (p:=∃ g cap,q12 = (some g,cap)) (fun w s=>(s.row_someG (k:=2) rfl (pos_of g27))) ?_
   rintro ⟨gg28,cc29,rfl⟩
   refine rp (Pu.indexSl sl83.h rfl rfl g27) ?_
   refine RS.exP (fun w s=>s.freeze 2 rfl) fun hh30 hz31=>?_
   obtain ⟨c32,hc33,ha34⟩:=R2.el (α:=Nte) (fa_R2 hz31) g27
   obtain ⟨u35,rfl,hu35⟩:=hc33
   obtain ⟨p36,cc37,rfl⟩:=R_form hu35
   refine rq (Qt.ldZ (cs:=[_,_,_,_,_,_,_,_]) ty212.h rfl ha34 (Held.fz 2 rfl) rfl) (RS.solid (Sd.alloc zr212 rfl) rfl rfl fun b38=>RS.solid (Sd.stB (cs':=[_,_,_,_,_,_,_,_]) 4 ty212.h rfl rfl rfl rfl rfl rfl rfl rfl) rfl rfl fun _=>RS.nil (k9 _ _ (kq [0,5,25,26,27] ?_)))
   refine T.region (au 2 ?_)
   obtain ⟨x39,hx39,H⟩:=bindE H
   refine RS.solid (Sd.callF0 0 ent109 rfl rfl (fun w s=>session_party_comes_walk g0 (.slice none 0 0) v24 (gi v11.m v23) (Rd.rest 3 rfl (by decide) (Rd.ofFz 0 rfl hu35)) hx39 w s)) rfl rfl fun _=>RS.nil (k8 _ _ (kq [0,25,26,27] ?_))
   refine T.region ?_
   obtain ⟨g40,H⟩:=gdE H
   refine rp (Pu.addS rfl rfl g40) (rM rfl (RS.nil ?_))
   refine id (hL21 _ _ ((v23 + 1),x39) () H sb sb (fun w s=>(Sat.thaw hz31 2 rfl s).pick [0,1,2,3] (by decide) rfl))
  refine T.xt ?_
  obtain rfl:=hd21 _ H
  refine id (hJ21 _ _ v24 () HX21 trivial trivial (fun w s=>s))
 intro z10 hz10 HX10 hJ10
 refine T.block ?_
 refine T.loopA (γ:=Unit) hz10 [(0,_),(10,_)] (fun (v41,v42) _=>[(11,.int .i64 v41)]) (fun (v41,v42) _=>Sat w0 [Par_ch g0 v42,F]) () sb sb (fun w s=>s) ?_
 rintro ⟨v41,v42⟩ ⟨⟩ y43 H hd10 KL10 hL10
 try dsimp only [Ex.then] at H
 refine kq [11,0,10] ?_
 refine au 2 ?_
 refine T.seq fun _ k11=>?_
 refine T.cP H rfl (fun hc44 H=>?_) (fun hc44 H=>?_)
 ·refine T.skip (k11 _ _ ?_)
  refine T.seq fun _ k12=>T.block (au 3 ?_)
  refine T.region (au 2 ?_)
  obtain ⟨x45,hx45,H⟩:=bindE H
  refine RS.solid (Sd.callF0 0 ent60 rfl rfl (fun w s=>session_party_tick_walk g0 v42 v41  hx45 w s)) rfl rfl fun _=>RS.nil (k12 _ _ (kq [0,10,11] ?_))
  refine T.region ?_
  obtain ⟨g46,H⟩:=gdE H
  refine rp (Pu.addS rfl rfl g46) (rM rfl (RS.nil ?_))
  refine id (hL10 _ _ ((v41 + 1),x45) () H sb sb (fun w s=>s))
 refine T.xt ?_
 obtain rfl:=hd10 _ H
 refine id (hJ10 _ _ v42 () HX10 sb trivial (fun w s=>s))
theorem session_party_act_walk {w0:World} {F:Ch} (g0:Nat) (a0_s:Par) (a1_a:Act) {v0:Value} (h0:Rd (Sat w0 [F]) a1_a.commands [v0]) {r:Par} (H:session_party_act a0_s a1_a = some r) (w:World) (s:Sat w0 [Par_ch g0 a0_s,F] w):Calls Tryz.prog 30 #[.pointer (some ⟨g0,0,none⟩),.agg #[.int .i64 a1_a.kind,.int .i64 a1_a.peer,.int .i64 a1_a.n,.int .i64 a1_a.pick,v0]] w fun e w'=>e = .returned (.tuple #[])∧Sat w0 [Par_ch g0 r,F] w':=by
 have hm0:=R_max (h0 w (s.pc [1]))
 obtain ⟨p0,c0,rfl⟩:=R_form (h0 w (s.pc [1]))
 unfold session_party_act at H
 refine te Tryz.func30 s ?_
 refine T.seq fun _ k1=>T.region (RS.solid (Sd.box (cs:=[_,_,_,_,_]) rfl rfl) rfl rfl fun b1=>RS.nil (k1 _ _ ?_))
 refine T.seq fun _ k2=>?_
 refine T.ex (fun w s=>Par_open 0 rfl s) ?_
 rintro ⟨q2,hA3⟩
 refine nz ?_
 refine T.ex (fun w s=>Pty_open 0 rfl s) ?_
 rintro ⟨⟨gs4,ql5,qh6,qg7,nl8,nh9⟩,hf10⟩
 refine nz ?_
 refine dr mixed [0,1,0,0,0,1,0,0,0,1,0,0,0,0] ?_
 refine au 4 ?_
 refine RD.joinV 9 18 (.bool (decide ((1 ≤ a1_a.peer)∧(a1_a.peer ≤ (a0_s.c.l.length:Int))))) [(0,_),(3,_)] sb ?_ ?_
 ·refine dp rfl (Pu.assign rfl) (RD.nil (k2 _ _ ?_))
  refine au 3 ?_
  refine T.block (au 3 ?_)
  refine T.cP H rfl (fun hc13 H=>?_) (fun hc13 H=>?_)
  ·refine kq [0,3,4] ?_
   refine au 2 ?_
   refine T.cP H rfl (fun hc14 H=>?_) (fun hc14 H=>?_)
   ·refine nz ?_
    refine T.region (au 3 ?_)
    obtain ⟨g15,H⟩:=gdE H
    refine rp (Pu.subS rfl rfl g15) (au 2 ?_)
    refine RS.wk (fun w s=>(Sat.sP [1,2,3,4] [0,5,6,7,8] s (Pty_shut (x:=a0_s.c) ⟨(gs4,ql5,qh6,qg7,nl8,nh9),hf10.1,hf10.2.1,hf10.2.2⟩))) ?_
    obtain ⟨x16,hx16,H⟩:=bindE H
    refine RS.solid (Sd.callF0 0 ent59 rfl rfl (fun w s=>session_party_say_walk g0 (rowV q2 a0_s.m.length) a0_s.c (a1_a.peer - 1) a1_a.commands (Rd.rest 1 rfl (by decide) h0) hx16 w s)) rfl rfl fun _=>RS.nil ?_
    refine Cont.wk (fun w s=>(Sat.sP [1,2] [0,3,4] s (Par_shut (x:=(⟨x16,a0_s.m⟩:Par)) (q2,hA3)))) ?_
    obtain rfl:=sj H
    refine id ?_
    repeat with_reducible refine Cont.inB ?_
    refine Cont.end0 rfl fun w' s=>?_
    exact ⟨rfl,s.pc [0,1]⟩
   refine T.skip ?_
   refine Cont.wk (fun w s=>(Sat.sP [1,2,3,4] [0,5,6,7,8] s (Pty_shut (x:=a0_s.c) ⟨(gs4,ql5,qh6,qg7,nl8,nh9),hf10.1,hf10.2.1,hf10.2.2⟩))) ?_
   refine Cont.wk (fun w s=>(Sat.sP [1,2] [0,3,4] s (Par_shut (x:=a0_s) (q2,hA3)))) ?_
   obtain rfl:=sj H
   refine id ?_
   repeat with_reducible refine Cont.inB ?_
   refine Cont.end0 rfl fun w' s=>?_
   exact ⟨rfl,s.pc [0,1]⟩
  refine kq [0,3,4,20] ?_
  refine au 3 ?_
  refine T.cP H rfl (fun hc17 H=>?_) (fun hc17 H=>?_)
  ·refine kq [0,3,4] ?_
   refine au 2 ?_
   refine T.cP H rfl (fun hc18 H=>?_) (fun hc18 H=>?_)
   ·refine nz ?_
    refine T.region (au 3 ?_)
    obtain ⟨g19,H⟩:=gdE H
    refine rp (Pu.subS rfl rfl g19) ?_
    refine RS.wk (fun w s=>(Sat.sP [1,2,3,4] [0,5,6,7,8] s (Pty_shut (x:=a0_s.c) ⟨(gs4,ql5,qh6,qg7,nl8,nh9),hf10.1,hf10.2.1,hf10.2.2⟩))) ?_
    refine RS.wk (fun w s=>(Sat.sP [1,2] [0,3,4] s (Par_shut (x:=a0_s) (q2,hA3)))) ?_
    obtain ⟨x20,hx20,H⟩:=bindE H
    refine RS.solid (Sd.callF0 0 ent60 rfl rfl (fun w s=>session_party_tick_walk g0 a0_s (a1_a.peer - 1)  hx20 w s)) rfl rfl fun _=>?_
    obtain rfl:=sj H
    refine RS.nil ?_
    repeat with_reducible refine Cont.inB ?_
    refine Cont.end0 rfl fun w' s=>?_
    exact ⟨rfl,s.pc [0,1]⟩
   refine T.skip ?_
   refine Cont.wk (fun w s=>(Sat.sP [1,2,3,4] [0,5,6,7,8] s (Pty_shut (x:=a0_s.c) ⟨(gs4,ql5,qh6,qg7,nl8,nh9),hf10.1,hf10.2.1,hf10.2.2⟩))) ?_
   refine Cont.wk (fun w s=>(Sat.sP [1,2] [0,3,4] s (Par_shut (x:=a0_s) (q2,hA3)))) ?_
   obtain rfl:=sj H
   refine id ?_
   repeat with_reducible refine Cont.inB ?_
   refine Cont.end0 rfl fun w' s=>?_
   exact ⟨rfl,s.pc [0,1]⟩
  refine kq [0,3,20] ?_
  refine T.seq fun _ k8=>au 3 ?_
  refine T.joinE (σ:=Bool) (γ:=Unit) H (fun s=>s) [(0,_),(3,_),(20,_)] sb (fun v22 _=>[(39,.bool v22)]) (fun v22 _=>Sat w0 [blk g0 [rowV ql5 nl8,rowV q2 a0_s.m.length,.slice none 0 0,rowV qh6 nh9,.slice none 0 0,.slice none 0 0,rowV qg7 a0_s.c.log.length] 85,F,blk b1 [.int .i64 a1_a.kind,.int .i64 a1_a.peer,.int .i64 a1_a.n,.int .i64 a1_a.pick,.slice p0 a1_a.commands.length c0] 31,rowG (FA hA3) 212 (rowV q2 a0_s.m.length) a0_s.m,fz hA3,row nilH 92 (rowV ql5 nl8) gs4,Ones_ch gs4 a0_s.c.l,Hss_ch qh6 a0_s.c.hashes,drow 200 (rowV qg7 a0_s.c.log.length) a0_s.c.log]) ?_ ?_
  ·rintro v22 ⟨⟩ H
   try dsimp only [Ex.then] at H
   refine Cont.kq [39,0,3,20] ?_
   refine id (k8 _ _ ?_)
   refine T.cB H rfl (fun _ H=>nomatch H) (fun hc23 H=>?_)
   refine au 3 ?_
   refine T.cP H rfl (fun hc24 H=>?_) (fun hc24 H=>?_)
   ·refine kq [0,3] ?_
    refine au 4 ?_
    refine T.wk (fun w s=>(Sat.sP [1,2,3,4] [0,5,6,7,8] s (Pty_shut (x:=a0_s.c) ⟨(gs4,ql5,qh6,qg7,nl8,nh9),hf10.1,hf10.2.1,hf10.2.2⟩))) ?_
    refine T.wk (fun w s=>(Sat.sP [1,2] [0,3,4] s (Par_shut (x:=a0_s) (q2,hA3)))) ?_
    refine T.joinE (σ:=Par) (γ:=Unit) H (fun s=>s) [] trivial (fun v26 _=>[]) (fun v26 _=>Sat w0 [Par_ch g0 v26,F,blk b1 [.int .i64 a1_a.kind,.int .i64 a1_a.peer,.int .i64 a1_a.n,.int .i64 a1_a.pick,.slice p0 a1_a.commands.length c0] 31]) ?_ ?_
    ·rintro v26 ⟨⟩ H
     try dsimp only [Ex.then] at H
     refine Cont.kq [] ?_
     obtain rfl:=sj H
     refine id ?_
     repeat with_reducible refine Cont.inB ?_
     refine Cont.end0 rfl fun w' s=>?_
     exact ⟨rfl,s.pc [0,1]⟩
    intro z25 hz25 HX25 hJ25
    refine T.block ?_
    refine T.loopA (γ:=Unit) hz25 [(0,_),(3,_)] (fun (v27,v28) _=>[(5,.int .i64 v27)]) (fun (v27,v28) _=>Sat w0 [Par_ch g0 v28,F,blk b1 [.int .i64 a1_a.kind,.int .i64 a1_a.peer,.int .i64 a1_a.n,.int .i64 a1_a.pick,.slice p0 a1_a.commands.length c0] 31]) () sb sb (fun w s=>s) ?_
    rintro ⟨v27,v28⟩ ⟨⟩ y29 H hd25 KL25 hL25
    try dsimp only [Ex.then] at H
    refine kq [5,0,3] ?_
    refine T.seq fun _ k12=>T.seq fun _ k13=>T.region (au 3 ?_)
    refine RS.joinV 4 56 (.bool (decide ((0 < v27)∧(a1_a.n ≤ 60)))) [(0,_),(3,_),(5,_)] sb ?_ ?_
    ·refine RS.nil (k13 _ _ ?_)
     refine T.cP H rfl (fun hc32 H=>?_) (fun hc32 H=>?_)
     ·refine T.skip (k12 _ _ ?_)
      refine T.seq fun _ k14=>T.block (T.region (rM rfl ?_))
      obtain ⟨x33,hx33,H⟩:=bindE H
      refine RS.solid (Sd.callF0 0 ent62 rfl rfl (fun w s=>session_party_calm_walk g0 v28  hx33 w s)) rfl rfl fun _=>RS.nil (k14 _ _ (kq [0,3,5] ?_))
      refine T.region (rM rfl ?_)
      obtain ⟨g34,H⟩:=gdE H
      refine rp (Pu.subS rfl rfl g34) (rA rfl (RS.nil ?_))
      refine id (hL25 _ _ ((v27 - 1),x33) () H sb sb (fun w s=>s))
     refine T.xt ?_
     obtain rfl:=hd25 _ H
     refine id (hJ25 _ _ v28 () HX25 trivial trivial (fun w s=>s))
    intro hJ31
    refine RS.splitP 52 rfl (fun hc30=>?_) (fun hc30=>?_)
    ·refine au 4 ?_
     exact hJ31 _ _ ⟨dAndT hc30,rfl,rfl,rfl,trivial⟩ (fun w s=>s)
    refine au 4 ?_
    exact hJ31 _ _ ⟨dAndF hc30,rfl,rfl,rfl,trivial⟩ (fun w s=>s)
   refine T.skip ?_
   refine Cont.wk (fun w s=>(Sat.sP [1,2,3,4] [0,5,6,7,8] s (Pty_shut (x:=a0_s.c) ⟨(gs4,ql5,qh6,qg7,nl8,nh9),hf10.1,hf10.2.1,hf10.2.2⟩))) ?_
   refine Cont.wk (fun w s=>(Sat.sP [1,2] [0,3,4] s (Par_shut (x:=a0_s) (q2,hA3)))) ?_
   obtain rfl:=sj H
   refine id ?_
   repeat with_reducible refine Cont.inB ?_
   refine Cont.end0 rfl fun w' s=>?_
   exact ⟨rfl,s.pc [0,1]⟩
  intro z21 H HX21 hJ21
  refine T.cP H rfl (fun hc35 H=>?_) (fun hc35 H=>?_)
  ·obtain rfl:=sj H
   refine T.skip (hJ21 _ _ (decide (a1_a.kind = 3)) () HX21 sb sb (fun w s=>s))
  refine au 3 ?_
  refine T.cP H rfl (fun hc36 H=>?_) (fun hc36 H=>?_)
  ·obtain rfl:=sj H
   refine T.skip (hJ21 _ _ (decide (a1_a.kind = 4)) () HX21 sb sb (fun w s=>s))
  refine kq [0,3,20] ?_
  refine nz ?_
  refine T.region (au 2 ?_)
  obtain rfl:=sj H
  refine RS.nil (hJ21 _ _ (decide (a1_a.kind = 5)) () HX21 sb sb (fun w s=>s))
 intro hJ12
 refine RD.splitP 9 rfl (fun hc11=>?_) (fun hc11=>?_)
 ·refine au 6 ?_
  refine dp rfl (lenOnes sl82.h rfl hf10.2.1) (au 2 ?_)
  exact hJ12 _ ⟨dAndT hc11,rfl,rfl,trivial⟩
 refine au 9 ?_
 exact hJ12 _ ⟨dAndF hc11,rfl,rfl,trivial⟩
theorem session_Run_walk (a0_g:Grd) (a1_players:Int) (a2_delay:Int) (a3_room:Int) (a4_l:List Act) (w:World) {v0 v1:Value} (h0:R (hpOf w) a0_g.tiles [v0]) (h1:R (hpOf w) a4_l [v1]) {r:Rep × Int} (H:session_Run a0_g a1_players a2_delay a3_room a4_l = some r):Calls Tryz.prog 11 #[.agg #[.int .i64 a0_g.w,.int .i64 a0_g.h,v0],.int .i64 a1_players,.int .i64 a2_delay,.int .i64 a3_room,v1] w fun e w'=>∃ g:(Option Nat × Nat) × (Option Nat × Nat) × (Option Nat × Nat) × (Option Nat × Nat) × (Option Nat × Nat),e = .returned (.tuple #[.agg #[rowV g.1 r.1.turns.length,rowV g.2.1 r.1.hashes.length,rowV g.2.2.1 r.1.worlds.length,rowV g.2.2.2.1 r.1.splits.length,rowV g.2.2.2.2 r.1.log.length],.int .i64 r.2])∧Sat w [row nilH 3 (rowV g.1 r.1.turns.length) r.1.turns,drow 87 (rowV g.2.1 r.1.hashes.length) r.1.hashes,drow 52 (rowV g.2.2.1 r.1.worlds.length) r.1.worlds,row nilH 4 (rowV g.2.2.2.1 r.1.splits.length) r.1.splits,drow 200 (rowV g.2.2.2.2 r.1.log.length) r.1.log] w':=by
 have hm0:=R_max h0
 obtain ⟨p0,c0,rfl⟩:=R_form h0
 have hm1:=R_max h1
 obtain ⟨p1,c1,rfl⟩:=R_form h1
 unfold session_Run at H
 refine te Tryz.func11 (Sat.start w) ?_
 refine T.exP (fun w s=>s.newArena) fun hA _=>?_
 refine T.seq fun _ k1=>T.region (RS.solid (Sd.box (cs:=[_,_,_]) rfl rfl) rfl rfl fun b1=>RS.solid (Sd.alloc zr44 rfl) rfl rfl fun b2=>rA rfl (RS.nil (k1 _ _ ?_)))
 refine T.seq fun _ k2=>T.region (au 2 ?_)
 obtain ⟨x3,hx3,H⟩:=bindE H
 refine RS.solid (Sd.callN (vs:=[_,_]) ent14 rfl (fun w s=>world_New_walk a0_g a1_players w ((Rd.base h0) w s) hx3)) rfl rfl fun ⟨q4,q5,q6⟩=>?_
 refine au 3 ?_
 refine RS.solid (Sd.alloc zr52 rfl) rfl rfl fun b7=>au 2 ?_
 refine RS.nil (k2 _ _ (kq [1,2,3,4,10,12,13] ?_))
 refine T.seq fun _ k3=>T.seq fun _ k4=>nz ?_
 refine T.region (au 3 ?_)
 refine RS.joinV 4 36 (.bool (decide ((¬ x3.2 = 0) ∨ (400 < (a4_l.length:Int))))) [(1,_),(2,_),(3,_),(4,_),(10,_),(12,_)] sb ?_ ?_
 ·refine RS.nil (k4 _ _ ?_)
  refine T.cP H rfl (fun hc10 H=>?_) (fun hc10 H=>?_)
  ·refine kq [10] ?_
   refine T.seq fun _ k5=>nz ?_
   refine T.region (rp (Pu.build (cells:=[_,_,_,_,_]) st44 rfl rfl) (au 2 ?_))
   refine RS.nil (k5 _ _ ?_)
   obtain rfl:=sj H
   refine nz ?_
   refine T.rt (Cont.retCT 2 rfl ty44.h rfl rfl rfl rfl fun w' s=>?_)
   exact ⟨⟨(none,0),(none,0),(none,0),(none,0),(none,0)⟩,rfl,(((((s.nilRow (α:=Int) 3).nilRowG (α:=(List UInt64)) 87).nilRowG (α:=Wld) 52).nilRow (α:=Bool) 4).nilRowG (α:=Frm) 200).pick [7,8,9,10,11] (by decide) rfl⟩
  refine T.skip (k3 _ _ ?_)
  refine T.seq fun _ k6=>nz ?_
  refine T.region (rp (Pu.build (cells:=[_,_,_,_,_,_,_]) st85 rfl rfl) (RS.solid (Sd.box (cs:=[_,_,_,_,_,_,_]) rfl rfl) rfl rfl fun b11=>?_))
  refine RS.weakS (S':=Sat w [fz hA,blk b1 [.int .i64 a0_g.w,.int .i64 a0_g.h,.slice p0 a0_g.tiles.length c0] 24,blk b2 [.slice none 0 0,.slice none 0 0,.slice none 0 0,.slice none 0 0,.slice none 0 0] 44,row nilH 5 (rowV q4 x3.1.g.tiles.length) x3.1.g.tiles,row nilH 135 (rowV q5 x3.1.bs.length) x3.1.bs,row nilH 54 (rowV q6 x3.1.us.length) x3.1.us,blk b7 [.int .i64 x3.1.tick,.int .i64 x3.1.players,.int .i64 x3.1.nextid,.int .i64 x3.1.g.w,.int .i64 x3.1.g.h,rowV q4 x3.1.g.tiles.length,rowV q5 x3.1.bs.length,rowV q6 x3.1.us.length] 52,blk b11 [rowV (none,0) 0,.slice none 0 0,.slice none 0 0,rowV (none,0) 0,.slice none 0 0,.slice none 0 0,rowV (none,0) 0] 85,row nilH 92 (rowV (none,0) 0) ([]:List Pt),Ones_ch ([]:List Pt) ([]:Ones),Hss_ch (none,0) ([]:Hss),drow 200 (rowV (none,0) 0) ([]:List Frm)]) (fun w s=>((hssNil (onesNil (s.nilRow (α:=Pt) 92))).nilRowG (α:=Frm) 200)) ?_
  refine rA rfl (RS.nil (k6 _ _ (kq [1,2,3,4,10,12,14] ?_)))
  refine T.seq fun _ k7=>au 2 ?_
  refine T.wk (fun w s=>((Sat.sP [0,1,2,3,4,5,6] [7,8,9,10,11] s (Pty_shut (x:=(⟨([]:Ones),([]:Hss),([]:List Frm)⟩:Pty)) ⟨(([]:List Pt),(none,0),(none,0),(none,0),0,0),rfl,rfl,rfl⟩))).pickP [1,2,3,4,5,6,7,0]) ?_
  refine T.joinE (σ:=Pty) (γ:=Unit) H Ex.go [(1,_),(4,_),(10,_),(14,_)] sb (fun v13 _=>[]) (fun v13 _=>Sat w [fz hA,blk b1 [.int .i64 a0_g.w,.int .i64 a0_g.h,.slice p0 a0_g.tiles.length c0] 24,blk b2 [.slice none 0 0,.slice none 0 0,.slice none 0 0,.slice none 0 0,.slice none 0 0] 44,row nilH 5 (rowV q4 x3.1.g.tiles.length) x3.1.g.tiles,row nilH 135 (rowV q5 x3.1.bs.length) x3.1.bs,row nilH 54 (rowV q6 x3.1.us.length) x3.1.us,blk b7 [.int .i64 x3.1.tick,.int .i64 x3.1.players,.int .i64 x3.1.nextid,.int .i64 x3.1.g.w,.int .i64 x3.1.g.h,rowV q4 x3.1.g.tiles.length,rowV q5 x3.1.bs.length,rowV q6 x3.1.us.length] 52,Pty_ch b11 (.slice none 0 0) v13]) ?_ ?_
  ·rintro v13 ⟨⟩ H
   try dsimp only [Ex.then] at H
   refine Cont.kq [1,4,10,14] ?_
   refine id (k7 _ _ ?_)
   refine T.seq fun _ k9=>nz ?_
   refine T.region (au 2 ?_)
   obtain ⟨g15,H⟩:=gdE H
   refine RS.solid (Sd.make (α:=Sl) (B:=nilH) (⟨(none,0),0⟩:Sl) sl39.h zr87 rfl (by decide) rfl rfl (by omega) (by omega) (by omega)) rfl rfl fun b14=>rp (Pu.nilCheck rfl) ?_
   refine RS.ex (fun w s=>Pty_open 7 rfl s) ?_
   rintro ⟨⟨gs16,ql17,qh18,qg19,nl20,nh21⟩,hf22⟩
   refine au 3 ?_
   refine RS.weakS (S':=Sat w [fz hA,blk b1 [.int .i64 a0_g.w,.int .i64 a0_g.h,.slice p0 a0_g.tiles.length c0] 24,blk b2 [.slice none 0 0,.slice none 0 0,.slice none 0 0,.slice none 0 0,.slice none 0 0] 44,row nilH 5 (rowV q4 x3.1.g.tiles.length) x3.1.g.tiles,row nilH 135 (rowV q5 x3.1.bs.length) x3.1.bs,row nilH 54 (rowV q6 x3.1.us.length) x3.1.us,blk b7 [.int .i64 x3.1.tick,.int .i64 x3.1.players,.int .i64 x3.1.nextid,.int .i64 x3.1.g.w,.int .i64 x3.1.g.h,rowV q4 x3.1.g.tiles.length,rowV q5 x3.1.bs.length,rowV q6 x3.1.us.length] 52,blk b11 [rowV ql17 nl20,.slice none 0 0,.slice none 0 0,rowV (some b14,a1_players.toNat) a1_players.toNat,.slice none 0 0,.slice none 0 0,rowV qg19 v13.log.length] 85,Hss_ch (some b14,a1_players.toNat) (List.replicate a1_players.toNat ([]:List UInt64)),row nilH 92 (rowV ql17 nl20) gs16,Ones_ch gs16 v13.l,dead,drow 200 (rowV qg19 v13.log.length) v13.log]) (fun w s=>(hsMake 8 s rfl).weaken 11 rfl dead (fun _ _=>trivial)) ?_
   refine RS.nil (k9 _ _ (kq [4,10,14] ?_))
   refine T.seq fun _ k10=>au 4 ?_
   refine T.wk (fun w s=>((Sat.sP [0,1,2,3,4,5,6] [7,9,10,8,12] s (Pty_shut (x:=(⟨v13.l,(List.replicate a1_players.toNat ([]:List UInt64)),v13.log⟩:Pty)) ⟨(gs16,ql17,(some b14,a1_players.toNat),qg19,nl20,a1_players.toNat),hf22.1,hf22.2.1,List.length_replicate⟩))).pickP [1,2,3,4,5,6,7,0]) ?_
   refine T.wk (fun w s=>((Sat.sP [1,2,3,4,5,6] [7,8,0] (s.nilRowA (α:=Nte) (B:=hA) 212) (Par_shut (x:=(⟨(⟨v13.l,(List.replicate a1_players.toNat ([]:List UInt64)),v13.log⟩:Pty),([]:List Nte)⟩:Par)) ((none,0),hA)))).pickP [1,2,3,4,5,6,0]) ?_
   refine T.joinE (σ:=Par) (γ:=Unit) H (fun s=>s) [(10,_),(14,_)] sb (fun v24 _=>[]) (fun v24 _=>Sat w [blk b1 [.int .i64 a0_g.w,.int .i64 a0_g.h,.slice p0 a0_g.tiles.length c0] 24,blk b2 [.slice none 0 0,.slice none 0 0,.slice none 0 0,.slice none 0 0,.slice none 0 0] 44,row nilH 5 (rowV q4 x3.1.g.tiles.length) x3.1.g.tiles,row nilH 135 (rowV q5 x3.1.bs.length) x3.1.bs,row nilH 54 (rowV q6 x3.1.us.length) x3.1.us,blk b7 [.int .i64 x3.1.tick,.int .i64 x3.1.players,.int .i64 x3.1.nextid,.int .i64 x3.1.g.w,.int .i64 x3.1.g.h,rowV q4 x3.1.g.tiles.length,rowV q5 x3.1.bs.length,rowV q6 x3.1.us.length] 52,Par_ch b11 v24]) ?_ ?_
   ·rintro v24 ⟨⟩ H
    try dsimp only [Ex.then] at H
    refine Cont.kq [10,14] ?_
    refine id (k10 _ _ ?_)
    refine T.seq fun _ k12=>T.seq fun _ k13=>nz ?_
    refine T.region (au 2 ?_)
    refine RS.ex (fun w s=>Par_open 6 rfl s) ?_
    rintro ⟨q25,hA26⟩
    refine nz ?_
    refine RS.ex (fun w s=>Pty_open 6 rfl s) ?_
    rintro ⟨⟨gs27,ql28,qh29,qg30,nl31,nh32⟩,hf33⟩
    refine au 2 ?_
    refine rp (lenOnes sl82.h rfl hf33.2.1) (rM rfl (RS.nil (k13 _ _ (kq [10,14,97,98,99] ?_))))
    refine T.joinE (σ:=List Int × List Wld × List Bool) (γ:=(Option Nat × Nat) × (Option Nat × Nat) × (Option Nat × Nat)) H (fun s=>s) [(10,_),(14,_)] sb (fun (v35,v37,v39) (q36,q38,q40)=>[]) (fun (v35,v37,v39) (q36,q38,q40)=>Sat w [blk b1 [.int .i64 a0_g.w,.int .i64 a0_g.h,.slice p0 a0_g.tiles.length c0] 24,blk b2 [.slice none 0 0,.slice none 0 0,.slice none 0 0,.slice none 0 0,.slice none 0 0] 44,row nilH 5 (rowV q4 x3.1.g.tiles.length) x3.1.g.tiles,row nilH 135 (rowV q5 x3.1.bs.length) x3.1.bs,row nilH 54 (rowV q6 x3.1.us.length) x3.1.us,blk b7 [.int .i64 x3.1.tick,.int .i64 x3.1.players,.int .i64 x3.1.nextid,.int .i64 x3.1.g.w,.int .i64 x3.1.g.h,rowV q4 x3.1.g.tiles.length,rowV q5 x3.1.bs.length,rowV q6 x3.1.us.length] 52,blk b11 [rowV ql28 nl31,rowV q25 v24.m.length,rowV q36 v35.length,rowV qh29 nh32,rowV q38 v37.length,rowV q40 v39.length,rowV qg30 v24.c.log.length] 85,rowG (FA hA26) 212 (rowV q25 v24.m.length) v24.m,fz hA26,row nilH 92 (rowV ql28 nl31) gs27,Ones_ch gs27 v24.c.l,Hss_ch qh29 v24.c.hashes,drow 200 (rowV qg30 v24.c.log.length) v24.c.log,row nilH 3 (rowV q36 v35.length) v35,drow 52 (rowV q38 v37.length) v37,row nilH 4 (rowV q40 v39.length) v39]) ?_ ?_
    ·rintro ⟨v35,v37,v39⟩ ⟨q36,q38,q40⟩ H
     try dsimp only [Ex.then] at H
     refine Cont.kq [10,14] ?_
     refine id (k12 _ _ ?_)
     refine T.seq fun _ k14=>nz ?_
     refine T.region (au 3 ?_)
     obtain rfl:=hf33.2.2
     refine RS.weakS (S':=Sat w [blk b1 [.int .i64 a0_g.w,.int .i64 a0_g.h,.slice p0 a0_g.tiles.length c0] 24,blk b2 [.slice none 0 0,.slice none 0 0,.slice none 0 0,.slice none 0 0,.slice none 0 0] 44,row nilH 5 (rowV q4 x3.1.g.tiles.length) x3.1.g.tiles,row nilH 135 (rowV q5 x3.1.bs.length) x3.1.bs,row nilH 54 (rowV q6 x3.1.us.length) x3.1.us,blk b7 [.int .i64 x3.1.tick,.int .i64 x3.1.players,.int .i64 x3.1.nextid,.int .i64 x3.1.g.w,.int .i64 x3.1.g.h,rowV q4 x3.1.g.tiles.length,rowV q5 x3.1.bs.length,rowV q6 x3.1.us.length] 52,blk b11 [rowV ql28 nl31,rowV q25 v24.m.length,rowV q36 v35.length,rowV qh29 v24.c.hashes.length,rowV q38 v37.length,rowV q40 v39.length,rowV qg30 v24.c.log.length] 85,rowG (FA hA26) 212 (rowV q25 v24.m.length) v24.m,fz hA26,row nilH 92 (rowV ql28 nl31) gs27,Ones_ch gs27 v24.c.l,drow 87 (rowV qh29 v24.c.hashes.length) v24.c.hashes,drow 200 (rowV qg30 v24.c.log.length) v24.c.log,row nilH 3 (rowV q36 v35.length) v35,drow 52 (rowV q38 v37.length) v37,row nilH 4 (rowV q40 v39.length) v39]) (fun w s=>hsDrow 11 s rfl) ?_
     refine au 3 ?_
     refine RS.nil (k14 _ _ (kq [10,11] ?_))
     obtain rfl:=sj H
     refine nz ?_
     refine T.rt (Cont.retCT 1 rfl ty44.h rfl rfl rfl rfl fun w' s=>?_)
     exact ⟨⟨q36,qh29,q38,q40,qg30⟩,rfl,s.pc [13,11,14,15,12]⟩
    intro z34 hz34 HX34 hJ34
    refine T.block ?_
    refine T.loopA (γ:=(Option Nat × Nat) × (Option Nat × Nat) × (Option Nat × Nat)) hz34 [(10,_),(14,_),(97,_),(98,_)] (fun (v41,l42,l44,l46) (q43,q45,q47)=>[(99,.int .i64 v41)]) (fun (v41,l42,l44,l46) (q43,q45,q47)=>Sat w [blk b1 [.int .i64 a0_g.w,.int .i64 a0_g.h,.slice p0 a0_g.tiles.length c0] 24,blk b2 [.slice none 0 0,.slice none 0 0,.slice none 0 0,.slice none 0 0,.slice none 0 0] 44,row nilH 5 (rowV q4 x3.1.g.tiles.length) x3.1.g.tiles,row nilH 135 (rowV q5 x3.1.bs.length) x3.1.bs,row nilH 54 (rowV q6 x3.1.us.length) x3.1.us,blk b7 [.int .i64 x3.1.tick,.int .i64 x3.1.players,.int .i64 x3.1.nextid,.int .i64 x3.1.g.w,.int .i64 x3.1.g.h,rowV q4 x3.1.g.tiles.length,rowV q5 x3.1.bs.length,rowV q6 x3.1.us.length] 52,blk b11 [rowV ql28 nl31,rowV q25 v24.m.length,rowV q43 l42.length,rowV qh29 nh32,rowV q45 l44.length,rowV q47 l46.length,rowV qg30 v24.c.log.length] 85,rowG (FA hA26) 212 (rowV q25 v24.m.length) v24.m,fz hA26,row nilH 92 (rowV ql28 nl31) gs27,Ones_ch gs27 v24.c.l,Hss_ch qh29 v24.c.hashes,drow 200 (rowV qg30 v24.c.log.length) v24.c.log,row nilH 3 (rowV q43 l42.length) l42,drow 52 (rowV q45 l44.length) l44,row nilH 4 (rowV q47 l46.length) l46]) ((none,0),(none,0),(none,0)) sb sb (fun w s=>(((s.nilRow (α:=Int) 3).nilRowG (α:=Wld) 52).nilRow (α:=Bool) 4).pick [0,1,2,3,4,5,6,7,8,9,10,11,12,13,14,15] (by decide) rfl) ?_
    rintro ⟨v41,l42,l44,l46⟩ ⟨q43,q45,q47⟩ y48 H hd34 KL34 hL34
    try dsimp only [Ex.then] at H
    refine kq [99,10,14,97,98] ?_
    refine au 2 ?_
    refine T.seq fun _ k16=>?_
    refine T.cP H rfl (fun hc49 H=>?_) (fun hc49 H=>?_)
    ·refine T.skip (k16 _ _ ?_)
     refine T.seq fun _ k17=>T.block (T.seq fun _ k18=>nz ?_)
     refine T.region ?_
     obtain ⟨g50,H⟩:=gdE H
     refine RS.know (p:=∃ g cap,ql28 = (some g,cap)) (fun w s=>s.row_some (k:=9) rfl (pos_of (idx_of (hf33.2.1.trans hf33.1.symm) g50))) ?_
     rintro ⟨gg51,cc52,rfl⟩
     refine rp (Pu.indexSl sl82.h rfl rfl (idx_of hf33.2.1 g50)) ?_
     refine RS.wk (fun w s=>onePull 10 v41 s rfl hf33.1 hf33.2.1 g50) ?_
     refine rq (Qt.ld0 (α:=Pt) (Rd.ofRowN 9 rfl) ty92.h rfl rfl (idx_of (hf33.2.1.trans hf33.1.symm) g50) (by rintro _ _ rfl; rfl)) (rA rfl (RS.nil (k18 _ _ (kq [10,14,23,97,98,99] ?_))))
     refine T.seq fun _ k19=>?_
     refine T.ex (fun w s=>One_open 16 rfl s) ?_
     rintro ⟨qm53,qi54,qh55,qa56,vh57,xe58⟩
     refine nz ?_
     refine T.know (p:=∃ p c,vh57 = .slice p (((gi v24.c.l v41).p).hashes).length c) (fun w s=>Sat.osl_form (k:=21) s rfl) ?_
     rintro ⟨p59,cc60,rfl⟩
     refine nz ?_
     refine drS mixed [0,1,2,3,4,5,7,8,9,10,11,12,14,15,16,17,18,19,20,21,22] [0,0,0,0,0,1,0,0,0,0,2,3,4,0,0,0,4] ?_
     refine au 11 ?_
     refine RD.solid rfl (.inl rfl) rfl rfl (Sd.litS (cs:=[_]) sl35.h zr3 rfl rfl rfl rfl rfl) (fun _=>ClE.sat _ _) (fun _ w s=>s.pc [0,1,2,3,4,5,7,8,9,10,11,12,14,15,16,17,18,19,20,21,22]) (fun _ _ _ s=>s.drop1) fun b61=>?_
     obtain ⟨g63,H⟩:=gdE H
     refine RD.solid rfl (.inr rfl) rfl rfl (Sd.app1c (α:=Int) 13 23 (((gi v24.c.l v41).p).turn) rfl rfl (nilH_lt _) sl35.h zr3 rfl rfl rfl rfl g63 (by decide)) (fun _=>ClE.sat _ _) (fun _ w s=>s.pc [0,1,2,3,4,5,7,8,9,10,11,12,14,15,16,17,18,19,20,21,22]) (fun h=>nomatch h) fun q62=>?_
     refine au 4 ?_
     refine RD.nil (k19 _ _ (kq [10,14,23,97,98,99] ?_))
     refine T.seq fun _ k20=>nz ?_
     refine drS mixed [0,1,2,3,4,5,7,8,9,10,11,12,13,15,16,17,18,19,20,21,22,23] [0,0,0,0,0,1,0,0,0,2,3,3,4,0,0,0,4] ?_
     refine au 10 ?_
     obtain ⟨x64,hx64,H⟩:=bindE H
     refine RD.solid rfl (.inl rfl) rfl rfl (Sd.callF 22 ent19 rfl rfl (fun w s=>eng_World_walk xe58 ((gi v24.c.l v41).w)  hx64 w s)) (fun _=>ClE.sat _ _) (fun _ w s=>s.pc [0,1,2,3,4,5,7,8,9,10,11,12,13,15,16,17,18,19,20,21,22,23]) (fun _ _ _ s=>s.pc [0,1,2,3,4,5,6,7,8,9,10,11,12,13,14,15,16,17,18,19,20,21,22,23]) fun ⟨q65,q66,q67⟩=>?_
     refine RD.solid rfl (.inl rfl) rfl rfl (Sd.litS (cs:=[_,_,_,_,_,_,_,_]) sl40.h zr52 rfl rfl rfl rfl rfl) (fun _=>ClE.sat _ _) (fun _ w s=>s.pc [0,1,2,3,4,5,7,8,9,10,11,12,13,15,16,17,18,19,20,21,22,23]) (fun _ _ _ s=>s.drop1) fun b68=>?_
     obtain ⟨g70,H⟩:=gdE H
     dsimp only [List.set,List.cons_append,List.nil_append,List.append_assoc]
     refine RD.solid rfl (.inr rfl) rfl rfl (Sd.pre (fun w s=>(Sat.starAt 24 28 (Sat.starAt 24 25 (Sat.starAt 25 26 (Sat.starAt 26 29 ((s.noStars).noStars) rfl rfl (by decide)) rfl rfl (by decide)) rfl rfl (by decide)) rfl rfl (by decide))) (Sd.appL (α:=Wld) 14 27 24 ([x64]:List Wld) rfl rfl rfl (DRF.cons' (α:=Wld) (x:=x64) (fun _ h=>⟨_,_,_,rfl,h⟩) DRF.nil') rfl sl40.h zr52 rfl rfl rfl rfl g70 (by decide))) (fun _=>ClE.sat _ _) (fun _ w s=>s.pc [0,1,2,3,4,5,7,8,9,10,11,12,13,15,16,17,18,19,20,21,22,23]) (fun h=>nomatch h) fun q69=>?_
     dsimp only [List.set,List.cons_append,List.nil_append,List.append_assoc]
     refine au 4 ?_
     refine RD.nil (k20 _ _ (kq [10,14,23,97,98,99] ?_))
     refine nz ?_
     refine drS mixed [0,1,2,3,4,5,7,8,9,10,11,12,13,14,16,17,18,19,20,21,22,23,24,25,26,27,28,29] [0,0,0,0,0,1,0,0,0,0,2,3,4,0,0,0,4] ?_
     refine au 11 ?_
     refine RD.solid rfl (.inl rfl) rfl rfl (Sd.litS (cs:=[_]) sl41.h zr4 rfl rfl rfl rfl rfl) (fun _=>ClE.sat _ _) (fun _ w s=>s.pc [0,1,2,3,4,5,7,8,9,10,11,12,13,14,16,17,18,19,20,21,22,23,24,25,26,27,28,29]) (fun _ _ _ s=>s.drop1) fun b71=>?_
     obtain ⟨g73,H⟩:=gdE H
     refine RD.solid rfl (.inr rfl) rfl rfl (Sd.app1c (α:=Bool) 15 30 (((gi v24.c.l v41).p).split) rfl rfl (nilH_lt _) sl41.h zr4 rfl rfl rfl rfl g73 (by decide)) (fun _=>ClE.sat _ _) (fun _ w s=>s.pc [0,1,2,3,4,5,7,8,9,10,11,12,13,14,16,17,18,19,20,21,22,23,24,25,26,27,28,29]) (fun h=>nomatch h) fun q72=>?_
     refine au 4 ?_
     refine RD.nil (k17 _ _ (kq [10,14,97,98,99] ?_))
     refine nz ?_
     refine T.region ?_
     obtain ⟨g74,H⟩:=gdE H
     refine rp (Pu.addS rfl rfl g74) (rM rfl (RS.nil ?_))
     refine Cont.wk (fun w s=>((Sat.sP [0,1,2,3,4,5,6,7,8,9,10,11,12,13,14,15,23,27,30] [16,17,18,19,20,21,22] s (One_shut (x:=(gi v24.c.l v41)) ⟨qm53,qi54,qh55,qa56,(.slice p59 (((gi v24.c.l v41).p).hashes).length cc60),xe58⟩))).pickP [1,2,3,4,5,6,7,8,9,10,11,12,13,14,15,16,0,17,18,19]) ?_
     refine Cont.wk (fun w s=>oneSame 10 16 s rfl rfl (by decide) hf33.1 hf33.2.1 g50) ?_
     refine id (hL34 _ _ ((v41 + 1),(l42 ++ [((gi v24.c.l v41).p).turn]),(l44 ++ ([x64]:List Wld)),(l46 ++ [((gi v24.c.l v41).p).split])) (q62,q69,q72) H sb sb (fun w s=>s.pc [0,1,2,3,4,5,6,7,8,9,10,11,12,13,14,15]))
    refine T.xt ?_
    obtain rfl:=hd34 _ H
    refine id (hJ34 _ _ (l42,l44,l46) (q43,q45,q47) HX34 sb trivial (fun w s=>s))
   intro z23 hz23 HX23 hJ23
   refine T.block ?_
   refine T.loopA (γ:=Unit) hz23 [(10,_),(14,_),(84,_),(85,_)] (fun (v75,v76) _=>[(86,.int .i64 v75)]) (fun (v75,v76) _=>Sat w [blk b1 [.int .i64 a0_g.w,.int .i64 a0_g.h,.slice p0 a0_g.tiles.length c0] 24,blk b2 [.slice none 0 0,.slice none 0 0,.slice none 0 0,.slice none 0 0,.slice none 0 0] 44,row nilH 5 (rowV q4 x3.1.g.tiles.length) x3.1.g.tiles,row nilH 135 (rowV q5 x3.1.bs.length) x3.1.bs,row nilH 54 (rowV q6 x3.1.us.length) x3.1.us,blk b7 [.int .i64 x3.1.tick,.int .i64 x3.1.players,.int .i64 x3.1.nextid,.int .i64 x3.1.g.w,.int .i64 x3.1.g.h,rowV q4 x3.1.g.tiles.length,rowV q5 x3.1.bs.length,rowV q6 x3.1.us.length] 52,Par_ch b11 v76]) () sb sb (fun w s=>s) ?_
   rintro ⟨v75,v76⟩ ⟨⟩ y77 H hd23 KL23 hL23
   try dsimp only [Ex.then] at H
   refine kq [86,10,14,84,85] ?_
   refine au 2 ?_
   refine T.seq fun _ k22=>?_
   refine T.cP H rfl (fun hc78 H=>?_) (fun hc78 H=>?_)
   ·refine T.skip (k22 _ _ ?_)
    refine T.seq fun _ k23=>T.block (T.seq fun _ k24=>nz ?_)
    refine T.region ?_
    obtain ⟨g79,H⟩:=gdE H
    obtain ⟨bl80,ol81,rfl⟩:=R_ptr h1 (ne_of_pos (pos_of g79))
    refine rp (Pu.indexSl sl25.h rfl rfl g79) ?_
    obtain ⟨c82,hc83,ha84⟩:=R_el (α:=Act) h1 g79
    obtain ⟨u85,rfl,hu85⟩:=hc83
    obtain ⟨p86,cc87,rfl⟩:=R_form hu85
    refine rq (Qt.ldZ (cs:=[_,_,_,_,_]) ty31.h rfl ha84 Held.base rfl) (RS.solid (Sd.alloc zr31 rfl) rfl rfl fun b88=>RS.solid (Sd.stB (cs':=[_,_,_,_,_]) 7 ty31.h rfl rfl rfl rfl rfl rfl rfl rfl) rfl rfl fun _=>RS.nil (k24 _ _ (kq [10,14,21,84,85,86] ?_)))
    refine nz ?_
    refine T.region (au 2 ?_)
    obtain ⟨x89,hx89,H⟩:=bindE H
    refine RS.solid (Sd.callF0 6 ent30 rfl rfl (fun w s=>session_party_act_walk b11 v76 (gi a4_l v75) (Rd.base hu85) hx89 w s)) rfl rfl fun _=>RS.nil (k23 _ _ (kq [10,14,84,85,86] ?_))
    refine nz ?_
    refine T.region ?_
    obtain ⟨g90,H⟩:=gdE H
    refine rp (Pu.addS rfl rfl g90) (rM rfl (RS.nil ?_))
    refine id (hL23 _ _ ((v75 + 1),x89) () H sb sb (fun w s=>s.pc [0,1,2,3,4,5,6]))
   refine T.xt ?_
   obtain rfl:=hd23 _ H
   refine id (hJ23 _ _ v76 () HX23 sb trivial (fun w s=>s))
  intro z12 hz12 HX12 hJ12
  refine T.block ?_
  refine T.loopA (γ:=Unit) hz12 [(1,_),(2,_),(3,_),(4,_),(10,_),(12,_),(14,_)] (fun (v91,v92) _=>[(15,.int .i64 v91)]) (fun (v91,v92) _=>Sat w [fz hA,blk b1 [.int .i64 a0_g.w,.int .i64 a0_g.h,.slice p0 a0_g.tiles.length c0] 24,blk b2 [.slice none 0 0,.slice none 0 0,.slice none 0 0,.slice none 0 0,.slice none 0 0] 44,row nilH 5 (rowV q4 x3.1.g.tiles.length) x3.1.g.tiles,row nilH 135 (rowV q5 x3.1.bs.length) x3.1.bs,row nilH 54 (rowV q6 x3.1.us.length) x3.1.us,blk b7 [.int .i64 x3.1.tick,.int .i64 x3.1.players,.int .i64 x3.1.nextid,.int .i64 x3.1.g.w,.int .i64 x3.1.g.h,rowV q4 x3.1.g.tiles.length,rowV q5 x3.1.bs.length,rowV q6 x3.1.us.length] 52,Pty_ch b11 (.slice none 0 0) v92]) () sb sb (fun w s=>s) ?_
  rintro ⟨v91,v92⟩ ⟨⟩ y93 H hd12 KL12 hL12
  try dsimp only [Ex.then] at H
  refine kq [15,1,2,3,4,10,12,14] ?_
  refine T.seq fun _ k25=>au 4 ?_
  refine T.cP H rfl (fun hc94 H=>?_) (fun hc94 H=>?_)
  ·refine T.skip (k25 _ _ (kq [1,2,3,4,10,12,14,15] ?_))
   refine T.seq fun _ k27=>T.block (T.seq fun _ k28=>nz ?_)
   refine T.region (au 3 ?_)
   obtain ⟨x95,hx95,H⟩:=bindE H
   refine RS.solid (Sd.callN (vs:=[_,_,_]) ent29 rfl (fun w s=>peer_New_walk v91 a1_players a2_delay w  hx95)) rfl rfl fun ⟨q96,q97,q98,q99,q100⟩=>?_
   refine au 3 ?_
   refine RS.solid (Sd.alloc zr89 rfl) rfl rfl fun b101=>au 2 ?_
   refine RS.nil (k28 _ _ (kq [1,2,3,4,10,12,14,15,16,17] ?_))
   refine T.seq fun _ k29=>nz ?_
   refine T.region (au 2 ?_)
   obtain ⟨x102,hx102,H⟩:=bindE H
   obtain ⟨o103,o104⟩:=x102
   dsimp only at H
   refine RS.solid (Sd.callN (vs:=[_,_]) ent17 rfl (fun w s=>eng_Open_walk x3.1 a3_room w ((Rd.ofRowN 3 rfl) w s) ((Rd.ofRowN 4 rfl) w s) ((Rd.ofRowN 5 rfl) w s) hx102)) rfl rfl fun g105=>au 5 ?_
   refine RS.nil (k29 _ _ (kq [1,2,3,4,10,12,14,15,16,17,18,19] ?_))
   refine T.seq fun _ k30=>T.seq fun _ k31=>nz ?_
   refine T.region (au 3 ?_)
   refine RS.joinV 3 63 (.bool (decide ((¬ x95.2 = 0) ∨ (¬ o104 = 0)))) [(1,_),(2,_),(3,_),(4,_),(10,_),(12,_),(14,_),(15,_),(16,_),(18,_)] sb ?_ ?_
   ·refine RS.nil (k31 _ _ ?_)
    refine T.cP H rfl (fun hc108 H=>?_) (fun hc108 H=>?_)
    ·refine kq [10] ?_
     refine T.seq fun _ k32=>nz ?_
     refine T.region (rp (Pu.build (cells:=[_,_,_,_,_]) st44 rfl rfl) (au 2 ?_))
     refine RS.nil (k32 _ _ ?_)
     obtain rfl:=hd12 _ H
     have H:=HX12
     obtain rfl:=sj H
     refine nz ?_
     refine T.rt (Cont.retCT 2 rfl ty44.h rfl rfl rfl rfl fun w' s=>?_)
     exact ⟨⟨(none,0),(none,0),(none,0),(none,0),(none,0)⟩,rfl,(((((s.nilRow (α:=Int) 3).nilRowG (α:=(List UInt64)) 87).nilRowG (α:=Wld) 52).nilRow (α:=Bool) 4).nilRowG (α:=Frm) 200).pick [15,16,17,18,19] (by decide) rfl⟩
    refine T.skip (k30 _ _ ?_)
    refine T.ex (fun w s=>Pty_open 7 rfl s) ?_
    rintro ⟨⟨gs109,ql110,qh111,qg112,nl113,nh114⟩,hf115⟩
    refine nz ?_
    obtain ⟨z116,hz116,HZz116⟩:=bindE H
    subst hz116
    have H:=HZz116
    refine T.weakS (fun w s=>s.optSome (C:=Eng_ch) 14 rfl) ?_
    refine nz ?_
    refine drS mixed [0,1,2,3,4,5,6,8,9,10,11,12,13,14,16,17,18] [0,0,0,0,1,2,0,0,3,3,4,0,0,4] ?_
    refine au 7 ?_
    refine RD.p (fun w s=>s.pc [0,1,2,3,4,5,6,8,9,10,11,12,13,14,16,17,18]) rfl (Pu.build (cells:=[_,_,_,_,_,_,_,_,_,_,_,_]) st94 rfl rfl) rfl rfl (RD.solid rfl (.inl rfl) rfl rfl (Sd.box (cs:=[_,_,_,_,_,_,_,_,_,_,_,_]) rfl rfl) (fun _=>ClE.sat _ _) (fun _ w s=>s.pc [0,1,2,3,4,5,6,8,9,10,11,12,13,14,16,17,18]) (fun _ _ _ s=>s.drop1) fun b117=>?_)
    refine RD.solid rfl (.inl rfl) rfl rfl (Sd.litS (cs:=[_]) sl82.h zr92 rfl rfl rfl rfl rfl) (fun _=>ClE.sat _ _) (fun _ w s=>s.pc [0,1,2,3,4,5,6,8,9,10,11,12,13,14,16,17,18]) (fun _ _ _ s=>s.drop1) fun b118=>?_
    obtain ⟨g120,H⟩:=gdE H
    refine RD.solid rfl (.inr rfl) rfl rfl (Sd.app1c (α:=Pt) 15 20 (⟨b117⟩:Pt) rfl rfl (nilH_lt _) sl82.h zr92 rfl rfl rfl rfl (ltx hf115.1 hf115.2.1 g120) (by decide)) (fun _=>ClE.sat _ _) (fun _ w s=>s.pc [0,1,2,3,4,5,6,8,9,10,11,12,13,14,16,17,18]) (fun h=>nomatch h) fun q119=>?_
    refine au 3 ?_
    refine RD.nil (k27 _ _ (kq [1,2,3,4,10,12,14,15] ?_))
    refine nz ?_
    refine T.region (rM rfl ?_)
    obtain ⟨g121,H⟩:=gdE H
    refine rp (Pu.addS rfl rfl g121) (rA rfl (RS.nil ?_))
    refine Cont.wk (fun w s=>((Sat.sP [0,1,2,3,4,5,6,7,13,15,16,17,18,20] [19,8,9,10,11,12,14] (Sat.rowOsl (q:=q100) (m:=x95.1.hashes.length) 12 s rfl) (One_shut (x:=(⟨x95.1,z116⟩:One)) ⟨q96,q97,q98,q99,(rowV q100 x95.1.hashes.length),g105⟩))).pickP [1,2,3,4,5,6,7,8,9,10,11,12,13,0,14]) ?_
    refine Cont.wk (fun w s=>onesAdd 10 13 s rfl rfl (by decide) hf115.1 hf115.2.1) ?_
    refine Cont.wk (fun w s=>((Sat.sP [0,1,2,3,4,5,6,8,14] [7,9,10,11,12] s (Pty_shut (x:=(⟨(v92.l ++ [(⟨x95.1,z116⟩:One)]),v92.hashes,v92.log⟩:Pty)) ⟨((gs109 ++ [(⟨b117⟩:Pt)]),q119,qh111,qg112,(gs109 ++ [(⟨b117⟩:Pt)]).length,nh114),rfl,(len_add (⟨b117⟩:Pt) (⟨x95.1,z116⟩:One) hf115.1 hf115.2.1),hf115.2.2⟩))).pickP [1,2,3,4,5,6,7,0,8,9]) ?_
    refine id (hL12 _ _ ((v91 + 1),(⟨(v92.l ++ [(⟨x95.1,z116⟩:One)]),v92.hashes,v92.log⟩:Pty)) () H sb sb (fun w s=>s.pc [0,1,2,3,4,5,6,7]))
   intro hJ107
   refine RS.splitP 60 rfl (fun hc106=>?_) (fun hc106=>?_)
   ·refine au 3 ?_
    exact hJ107 _ _ ⟨dOrT hc106,rfl,rfl,rfl,rfl,rfl,rfl,rfl,rfl,rfl,rfl,trivial⟩ (fun w s=>s)
   refine au 3 ?_
   exact hJ107 _ _ ⟨dOrF hc106,rfl,rfl,rfl,rfl,rfl,rfl,rfl,rfl,rfl,rfl,trivial⟩ (fun w s=>s)
  refine T.xt ?_
  obtain rfl:=hd12 _ H
  refine id (hJ12 _ _ v92 () HX12 sb trivial (fun w s=>s))
 intro hJ9
 refine RS.splitP 32 rfl (fun hc8=>?_) (fun hc8=>?_)
 ·refine au 4 ?_
  exact hJ9 _ _ ⟨dOrT hc8,rfl,rfl,rfl,rfl,rfl,rfl,trivial⟩ (fun w s=>s)
 refine au 4 ?_
 exact hJ9 _ _ ⟨dOrF hc8,rfl,rfl,rfl,rfl,rfl,rfl,trivial⟩ (fun w s=>s)
end Go.Proofs.YtmngdgclldkcfaaGreat
