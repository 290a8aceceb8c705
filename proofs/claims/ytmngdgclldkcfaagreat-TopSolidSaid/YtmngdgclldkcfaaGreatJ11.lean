/-
  Texts of one's own, joined: FH ZE V5 V1 V3 V4 WB.
-/
import Derived.Test.YtmngdgclldkcfaaGreatRows
import Derived.Test.YtmngdgclldkcfaaGreatJ6
import Derived.Test.YtmngdgclldkcfaaGreatJ7
import Derived.Test.YtmngdgclldkcfaaGreatJ10
import Derived.Test.YtmngdgclldkcfaaGreatJ9
import Derived.Test.YtmngdgclldkcfaaGreatJ3
import Derived.Test.YtmngdgclldkcfaaGreatJ5
set_option linter.unusedVariables false
set_option linter.unusedSimpArgs false
set_option maxRecDepth 20000
set_option maxHeartbeats 4000000
namespace Go.Proofs.YtmngdgclldkcfaaGreat
open Go.Vg
open Enc (R)
theorem ar340:arTy Tryz.prog 340 = some (2,3,1):=by kernel_rfl
theorem ar343:arTy Tryz.prog 343 = some (8,3,1):=by kernel_rfl
theorem ar347:arTy Tryz.prog 347 = some (6,3,1):=by kernel_rfl
theorem ar379:arTy Tryz.prog 379 = some (8,340,2):=by kernel_rfl
theorem at340:atTy Tryz.prog 340 = some ([.int .i64 0,.int .i64 0],1):=by kernel_rfl
theorem at347:atTy Tryz.prog 347 = some ([.int .i64 0,.int .i64 0,.int .i64 0,.int .i64 0,.int .i64 0,.int .i64 0],1):=by kernel_rfl
theorem at379:atTy Tryz.prog 379 = some ([.int .i64 0,.int .i64 0,.int .i64 0,.int .i64 0,.int .i64 0,.int .i64 0,.int .i64 0,.int .i64 0,.int .i64 0,.int .i64 0,.int .i64 0,.int .i64 0,.int .i64 0,.int .i64 0,.int .i64 0,.int .i64 0],2):=by kernel_rfl
theorem ent136:Ent Tryz.prog 136:=en Tryz.func136
theorem ent177:Ent Tryz.prog 177:=en Tryz.func177
theorem ent206:Ent Tryz.prog 206:=en Tryz.func206
theorem ent244:Ent Tryz.prog 244:=en Tryz.func244
theorem ent245:Ent Tryz.prog 245:=en Tryz.func245
theorem ent266:Ent Tryz.prog 266:=en Tryz.func266
theorem ent269:Ent Tryz.prog 269:=en Tryz.func269
theorem ent304:Ent Tryz.prog 304:=en Tryz.func304
theorem ent306:Ent Tryz.prog 306:=en Tryz.func306
theorem ent365:Ent Tryz.prog 365:=en Tryz.func365
theorem ent366:Ent Tryz.prog 366:=en Tryz.func366
theorem ent367:Ent Tryz.prog 367:=en Tryz.func367
theorem ent370:Ent Tryz.prog 370:=en Tryz.func370
theorem ent371:Ent Tryz.prog 371:=en Tryz.func371
theorem ent372:Ent Tryz.prog 372:=en Tryz.func372
theorem ent57:Ent Tryz.prog 57:=en Tryz.func57
instance fd233_0:FdC Tryz.prog 233 0 0:={}
instance fd233_1:FdC Tryz.prog 233 1 3:={}
instance fd233_2:FdC Tryz.prog 233 2 4:={}
instance fd443_0:FdC Tryz.prog 443 0 0:={}
instance fd445_0:FdC Tryz.prog 445 0 0:={}
instance fd445_1:FdC Tryz.prog 445 1 1:={}
instance sl341:SlC Tryz.prog 341 (340,2,16):={}
instance sl441:SlC Tryz.prog 441 (445,2,16):={}
theorem st233:stTy Tryz.prog 233 = some ([.int .i64 0,.int .i64 0,.slice none 0 0,.int .i64 0,.slice none 0 0],[(0,3),(3,1),(4,1)]):=by kernel_rfl
theorem st443:stTy Tryz.prog 443 = some ([.slice none 0 0],[(0,1)]):=by kernel_rfl
theorem st445:stTy Tryz.prog 445 = some ([.int .i64 0,.int .i64 0],[(0,1),(1,1)]):=by kernel_rfl
instance ty340:TyC Tryz.prog 340 (2,true):={}
instance ty343:TyC Tryz.prog 343 (8,true):={}
instance ty347:TyC Tryz.prog 347 (6,true):={}
instance ty379:TyC Tryz.prog 379 (16,true):={}
instance ty41:TyC Tryz.prog 41 (1,false):={}
instance ty441:TyC Tryz.prog 441 (1,false):={}
instance ty445:TyC Tryz.prog 445 (2,true):={}
theorem zr340:zeroOf Tryz.prog 340 = some (.agg #[.int .i64 0,.int .i64 0]):=by kernel_rfl
theorem zr343:zeroOf Tryz.prog 343 = some (.agg #[.int .i64 0,.int .i64 0,.int .i64 0,.int .i64 0,.int .i64 0,.int .i64 0,.int .i64 0,.int .i64 0]):=by kernel_rfl
theorem zr347:zeroOf Tryz.prog 347 = some (.agg #[.int .i64 0,.int .i64 0,.int .i64 0,.int .i64 0,.int .i64 0,.int .i64 0]):=by kernel_rfl
theorem zr379:zeroOf Tryz.prog 379 = some (.agg #[.int .i64 0,.int .i64 0,.int .i64 0,.int .i64 0,.int .i64 0,.int .i64 0,.int .i64 0,.int .i64 0,.int .i64 0,.int .i64 0,.int .i64 0,.int .i64 0,.int .i64 0,.int .i64 0,.int .i64 0,.int .i64 0]):=by kernel_rfl
theorem zr445:zeroOf Tryz.prog 445 = some (.agg #[.int .i64 0,.int .i64 0]):=by kernel_rfl
theorem kind_Price_walk (a0_class:Int) (a1_terrain:Int) (w:World) {r:Int} (H:kind_Price a0_class a1_terrain = some r):Calls Tryz.prog 245 #[.int .i64 a0_class,.int .u8 a1_terrain] w fun e w'=>e = .returned (.int .i64 r)∧Ext w w':=by
 unfold kind_Price at H
 refine te Tryz.func245 (Sat.start w) ?_
 refine au 2 ?_
 refine T.seq fun _ k2=>T.region (RS.solid (Sd.alloc (cs:=nums (List.replicate 6 0)) zr347 rfl) rfl rfl fun b1=>RS.nil (k2 _ _ ?_))
 refine T.seq fun _ k3=>au 2 ?_
 refine T.block (au 3 ?_)
 refine T.cP H rfl (fun hc2 H=>?_) (fun hc2 H=>?_)
 ·refine kq [1,5] ?_
  refine T.region (rp (Pu.buildAr (cells:=[_,_,_,_,_,_]) at347 rfl rfl) ?_)
  obtain ⟨g3,H⟩:=gdE H
  refine RS.solid (Sd.stB (cs':=nums [2,1,3,5,0,0]) (us:=nums [2,1,3,5,0,0]) 0 ty347.h rfl rfl rfl (by first | rfl | simp [Value.cells]) (by simp [nums,(g3).2]) (by simp [nums,(g3).1]) (by simp [nums,Value.oneCell']) (by rw [List.take_zero,List.nil_append,List.drop_of_length_le (by simp [nums,(g3).1]),List.append_nil])) rfl rfl fun _=>RS.nil (k3 _ _ ?_)
  refine T.seq fun _ k6=>T.region (rM rfl ?_)
  obtain ⟨g4,H⟩:=gdE H
  refine rp (Pu.indexAr ar347 rfl rfl (by have:=g4; omega)) (rq (Qt.ldAr 0 ty3.h rfl rfl rfl (by have:=g4; omega)) (rA rfl (RS.nil (k6 _ _ (kq [4] ?_)))))
  obtain rfl:=sj H
  refine T.rt (Cont.ret1 rfl rfl fun w' s=>?_)
  exact ⟨rfl,s.ext⟩
 refine kq [1,5,6] ?_
 refine au 3 ?_
 refine T.cP H rfl (fun hc5 H=>?_) (fun hc5 H=>?_)
 ·refine kq [1,5] ?_
  refine T.region (rp (Pu.buildAr (cells:=[_,_,_,_,_,_]) at347 rfl rfl) ?_)
  obtain ⟨g6,H⟩:=gdE H
  refine RS.solid (Sd.stB (cs':=nums [2,1,6,0,0,0]) (us:=nums [2,1,6,0,0,0]) 0 ty347.h rfl rfl rfl (by first | rfl | simp [Value.cells]) (by simp [nums,(g6).2]) (by simp [nums,(g6).1]) (by simp [nums,Value.oneCell']) (by rw [List.take_zero,List.nil_append,List.drop_of_length_le (by simp [nums,(g6).1]),List.append_nil])) rfl rfl fun _=>RS.nil (k3 _ _ ?_)
  refine T.seq fun _ k8=>T.region (rM rfl ?_)
  obtain ⟨g7,H⟩:=gdE H
  refine rp (Pu.indexAr ar347 rfl rfl (by have:=g7; omega)) (rq (Qt.ldAr 0 ty3.h rfl rfl rfl (by have:=g7; omega)) (rA rfl (RS.nil (k8 _ _ (kq [4] ?_)))))
  obtain rfl:=sj H
  refine T.rt (Cont.ret1 rfl rfl fun w' s=>?_)
  exact ⟨rfl,s.ext⟩
 refine kq [1,5] ?_
 refine T.region (rp (Pu.buildAr (cells:=[_,_,_,_,_,_]) at347 rfl rfl) ?_)
 obtain ⟨g8,H⟩:=gdE H
 refine RS.solid (Sd.stB (cs':=nums [2,1,0,3,2,0]) (us:=nums [2,1,0,3,2,0]) 0 ty347.h rfl rfl rfl (by first | rfl | simp [Value.cells]) (by simp [nums,(g8).2]) (by simp [nums,(g8).1]) (by simp [nums,Value.oneCell']) (by rw [List.take_zero,List.nil_append,List.drop_of_length_le (by simp [nums,(g8).1]),List.append_nil])) rfl rfl fun _=>RS.nil (k3 _ _ ?_)
 refine T.seq fun _ k9=>T.region (rM rfl ?_)
 obtain ⟨g9,H⟩:=gdE H
 refine rp (Pu.indexAr ar347 rfl rfl (by have:=g9; omega)) (rq (Qt.ldAr 0 ty3.h rfl rfl rfl (by have:=g9; omega)) (rA rfl (RS.nil (k9 _ _ (kq [4] ?_)))))
 obtain rfl:=sj H
 refine T.rt (Cont.ret1 rfl rfl fun w' s=>?_)
 exact ⟨rfl,s.ext⟩
theorem ground_Ways_walk (w:World) {r:List Int} (H:ground_Ways = some r):Calls Tryz.prog 306 #[] w fun e w'=>e = .returned (.agg (nums r).toArray)∧Ext w w':=by
 unfold ground_Ways at H
 refine te Tryz.func306 (Sat.start w) ?_
 refine T.seq fun _ k1=>T.region (RS.solid (Sd.alloc (cs:=nums (List.replicate 16 0)) zr379 rfl) rfl rfl fun b1=>RS.nil (k1 _ _ ?_))
 refine T.seq fun _ k2=>T.region (rp (Pu.buildAr (cells:=[_,_]) at340 rfl rfl) (rp (Pu.buildAr (cells:=[_,_]) at340 rfl rfl) (rp (Pu.buildAr (cells:=[_,_]) at340 rfl rfl) (rp (Pu.buildAr (cells:=[_,_]) at340 rfl rfl) (rp (Pu.buildAr (cells:=[_,_]) at340 rfl rfl) (rp (Pu.buildAr (cells:=[_,_]) at340 rfl rfl) (rp (Pu.buildAr (cells:=[_,_]) at340 rfl rfl) (rp (Pu.buildAr (cells:=[_,_]) at340 rfl rfl) (rp (Pu.buildAr (cells:=[_,_,_,_,_,_,_,_,_,_,_,_,_,_,_,_]) at379 rfl rfl) ?_)))))))))
 obtain ⟨g2,H⟩:=gdE H
 refine RS.solid (Sd.stB (cs':=nums [0,(-1),1,0,0,1,(-1),0,1,(-1),1,1,(-1),1,(-1),(-1)]) (us:=nums [0,(-1),1,0,0,1,(-1),0,1,(-1),1,1,(-1),1,(-1),(-1)]) 0 ty379.h rfl rfl rfl (by first | rfl | simp [Value.cells]) (by simp [nums,(g2).2]) (by simp [nums,(g2).1]) (by simp [nums,Value.oneCell']) (by rw [List.take_zero,List.nil_append,List.drop_of_length_le (by simp [nums,(g2).1]),List.append_nil])) rfl rfl fun _=>RS.nil (k2 _ _ (kq [0] ?_))
 obtain ⟨g3,H⟩:=gdE H
 obtain rfl:=sj H
 refine T.rt (Cont.retC 0 rfl ty379.h rfl rfl (by simp [nums,g3]) fun w' s=>?_)
 exact ⟨rfl,s.ext⟩
theorem ground_Beside_walk (a0_g:Grd) (a1_t:Int) (w:World) {v0:Value} (h0:R (hpOf w) a0_g.tiles [v0]) {r:List Int} (H:ground_Beside a0_g a1_t = some r):Calls Tryz.prog 269 #[.agg #[.int .i64 a0_g.w,.int .i64 a0_g.h,v0],.int .i64 a1_t] w fun e w'=>e = .returned (.agg (nums r).toArray)∧Ext w w':=by
 have hm0:=R_max h0
 obtain ⟨p0,c0,rfl⟩:=R_form h0
 unfold ground_Beside at H
 refine te Tryz.func269 (Sat.start w) ?_
 refine T.seq fun _ k1=>T.region (RS.solid (Sd.box (cs:=[_,_,_]) rfl rfl) rfl rfl fun b1=>RS.solid (Sd.alloc (cs:=nums (List.replicate 8 0)) zr343 rfl) rfl rfl fun b2=>RS.nil (k1 _ _ ?_))
 refine T.seq fun _ k2=>dr mixed [0,0,1,0,0,0,1,0,0,0] ?_
 refine au 3 ?_
 obtain ⟨g3,H⟩:=gdE H
 refine dp rfl (Pu.remN rfl rfl (and3 g3)) (au 3 ?_)
 obtain ⟨g4,H⟩:=gdE H
 refine dp rfl (Pu.quoN rfl rfl g4) (au 2 ?_)
 refine RD.nil (k2 _ _ (kq [2,4,5,6] ?_))
 refine T.seq fun _ k3=>T.seq fun _ k4=>T.region ?_
 obtain ⟨x5,hx5,H⟩:=bindE H
 refine rq (Qt.call (vs:=[]) ent306 rfl fun w s=>ground_Ways_walk  w  hx5) (rM rfl (RS.nil (k4 _ _ ?_)))
 refine T.joinE (σ:=List Int) (γ:=Unit) H (fun s=>s) [(4,_)] sb (fun v7 _=>[]) (fun v7 _=>Sat w [blk b1 [.int .i64 a0_g.w,.int .i64 a0_g.h,.slice p0 a0_g.tiles.length c0] 24,blk b2 (nums v7) 343]) ?_ ?_
 ·rintro v7 ⟨⟩ H
  try dsimp only [Ex.then] at H
  refine Cont.kq [4] ?_
  refine id (k3 _ _ ?_)
  refine T.seq fun _ k5=>T.region ?_
  obtain ⟨g8,H⟩:=gdE H
  refine rq (Qt.ldBA (us:=nums v7) 1 ty343.h rfl rfl (by rw [List.drop_zero]; exact List.take_of_length_le (by simp [nums,g8])) (by simp [nums,g8])) ?_
  obtain ⟨g9,H⟩:=gdE H
  refine RS.solid (Sd.stB (cs':=nums v7) (us:=nums v7) 1 ty343.h rfl rfl rfl (by first | rfl | simp [Value.cells]) (by simp [nums,(g9).2]) (by simp [nums,(g9).1]) (by simp [nums,Value.oneCell']) (by rw [List.take_zero,List.nil_append,List.drop_of_length_le (by simp [nums,(g9).1]),List.append_nil])) rfl rfl fun _=>RS.nil (k5 _ _ ?_)
  obtain ⟨g10,H⟩:=gdE H
  obtain rfl:=sj H
  refine T.rt (Cont.retC 1 rfl ty343.h rfl rfl (by simp [nums,g10]) fun w' s=>?_)
  exact ⟨rfl,s.ext⟩
 intro z6 hz6 HX6 hJ6
 refine T.block ?_
 refine T.loopA (γ:=Unit) hz6 [(2,_),(4,_),(5,_),(6,_),(17,_)] (fun (v11,v12) _=>[(18,.int .i64 v11)]) (fun (v11,v12) _=>Sat w [blk b1 [.int .i64 a0_g.w,.int .i64 a0_g.h,.slice p0 a0_g.tiles.length c0] 24,blk b2 (nums v12) 343]) () sb sb (fun w s=>s) ?_
 rintro ⟨v11,v12⟩ ⟨⟩ y13 H hd6 KL6 hL6
 try dsimp only [Ex.then] at H
 refine kq [18,2,4,5,6,17] ?_
 refine au 2 ?_
 refine T.seq fun _ k7=>?_
 refine T.cP H rfl (fun hc14 H=>?_) (fun hc14 H=>?_)
 ·refine T.skip (k7 _ _ ?_)
  refine T.seq fun _ k8=>T.block (T.seq fun _ k9=>T.region (rM rfl ?_))
  obtain ⟨g15,H⟩:=gdE H
  refine rp (Pu.indexN2 (xs:=x5) ar379 ty340.h rfl rfl g15) (RS.solid (Sd.alloc zr340 rfl) rfl rfl fun b16=>au 2 ?_)
  refine RS.nil (k9 _ _ (kq [2,4,5,6,7,8,17,18] ?_))
  refine T.seq fun _ k10=>T.region (rM rfl ?_)
  obtain ⟨g17,H⟩:=gdE H
  refine rp (Pu.indexAr ar343 rfl rfl (by have:=g17; omega)) (RS.solid (Sd.stAr 1 ty3.h rfl rfl rfl rfl (by have:=g17; omega)) rfl rfl fun _=>RS.nil (k10 _ _ ?_))
  refine T.seq fun _ k11=>T.region (au 2 ?_)
  refine rp (Pu.indexAr ar340 rfl rfl (by omega)) (rq (Qt.ldB 2 ty3.h rfl rfl rfl) ?_)
  obtain ⟨g18,H⟩:=gdE H
  refine rp (Pu.addS rfl rfl g18) (rM rfl (rp (Pu.indexAr ar340 rfl rfl (by omega)) (rq (Qt.ldB 2 ty3.h rfl rfl rfl) ?_)))
  obtain ⟨g19,H⟩:=gdE H
  refine rp (Pu.addS rfl rfl g19) ?_
  obtain ⟨x20,hx20,H⟩:=bindE H
  refine rq (Qt.call (vs:=[_,_,_]) ent304 rfl fun w s=>ground_On_walk a0_g ((a1_t % a0_g.w) + (gi x5 (2 * v11))) ((a1_t / a0_g.w) + (gi x5 (2 * v11 + 1))) w ((Rd.base h0) w s) hx20) (RS.nil (k11 _ _ ?_))
  refine T.cB H rfl (fun hc21 H=>?_) (fun hc21 H=>?_)
  ·refine kq [2,4,5,6,7,8,17,18] ?_
   refine T.region (au 2 ?_)
   refine rp (Pu.indexAr ar340 rfl rfl (by omega)) (rq (Qt.ldB 2 ty3.h rfl rfl rfl) ?_)
   obtain ⟨g22,H⟩:=gdE H
   refine rp (Pu.addS rfl rfl g22) (au 3 ?_)
   refine rp (Pu.indexAr ar340 rfl rfl (by omega)) (rq (Qt.ldB 2 ty3.h rfl rfl rfl) ?_)
   obtain ⟨g23,H⟩:=gdE H
   refine rp (Pu.addS rfl rfl g23) ?_
   obtain ⟨g24,H⟩:=gdE H
   refine rp (Pu.mulS rfl rfl g24) ?_
   obtain ⟨g25,H⟩:=gdE H
   refine rp (Pu.addS rfl rfl g25) ?_
   obtain ⟨g26,H⟩:=gdE H
   refine rp (Pu.indexAr ar343 rfl rfl (by have:=g26; omega)) (RS.solid (Sd.stAr 1 ty3.h rfl rfl rfl rfl (by have:=g26; omega)) rfl rfl fun _=>RS.nil (k8 _ _ (kq [2,4,5,6,17,18] ?_)))
   refine T.region ?_
   obtain ⟨g27,H⟩:=gdE H
   refine rp (Pu.addS rfl rfl g27) (rM rfl (RS.nil (hL6 _ _ ((v11 + 1),(si (si v12 v11 (-1)) v11 (((a1_t % a0_g.w) + (gi x5 (2 * v11))) + (a0_g.w * ((a1_t / a0_g.w) + (gi x5 (2 * v11 + 1))))))) () H sb sb (fun w s=>s.pc [0,1]))))
  refine T.skip (k8 _ _ (kq [2,4,5,6,17,18] ?_))
  refine T.region ?_
  obtain ⟨g28,H⟩:=gdE H
  refine rp (Pu.addS rfl rfl g28) (rM rfl (RS.nil (hL6 _ _ ((v11 + 1),(si v12 v11 (-1))) () H sb sb (fun w s=>s.pc [0,1]))))
 obtain rfl:=hd6 _ H
 refine T.xt (hJ6 _ _ v12 () HX6 sb trivial (fun w s=>s))
theorem clear_pass_walk {w0:World} {F:Ch} (a0_g:Grd) (a1_k:List Int) (a2_t:Int) (a3_ways:List Pr2) {q0:Option Nat × Nat} {m0:Nat} (hm:m0 = a1_k.length) {v0 v1:Value} (h0:Rd (Sat w0 [F]) a0_g.tiles [v0]) (h1:Rd (Sat w0 [F]) a3_ways [v1]) {r:List Int} (H:clear_pass a0_g a1_k a2_t a3_ways = some r) (w:World) (s:Sat w0 [row nilH 3 (rowV q0 m0) a1_k,F] w):Calls Tryz.prog 266 #[.agg #[.int .i64 a0_g.w,.int .i64 a0_g.h,v0],rowV q0 m0,.int .i64 a2_t,v1] w fun e w'=>e = .returned (.tuple #[])∧Sat w0 [row nilH 3 (rowV q0 m0) r,F] w':=by
 have hm0:=R_max (h0 w (s.pc [1]))
 obtain ⟨p0,c0,rfl⟩:=R_form (h0 w (s.pc [1]))
 subst hm
 have hm1:=R_max (h1 w (s.pc [1]))
 obtain ⟨p1,c1,rfl⟩:=R_form (h1 w (s.pc [1]))
 unfold clear_pass at H
 refine te Tryz.func266 s ?_
 refine T.seq fun _ k1=>T.region (RS.solid (Sd.box (cs:=[_,_,_]) rfl rfl) rfl rfl fun b1=>RS.nil (k1 _ _ ?_))
 refine T.seq fun _ k2=>dr mixed [0,0,1,0,0,0,1,0,0,0] ?_
 refine au 3 ?_
 obtain ⟨g2,H⟩:=gdE H
 refine dp rfl (Pu.remN rfl rfl (and3 g2)) (au 3 ?_)
 obtain ⟨g3,H⟩:=gdE H
 refine dp rfl (Pu.quoN rfl rfl g3) (au 2 ?_)
 refine RD.nil (k2 _ _ (kq [1,2,3,4,8,9] ?_))
 refine au 4 ?_
 refine T.joinE (σ:=List Int) (γ:=Unit) H (fun s=>s) [] trivial (fun v5 _=>[]) (fun v5 _=>Sat w0 [row nilH 3 (rowV q0 a1_k.length) v5,F,blk b1 [.int .i64 a0_g.w,.int .i64 a0_g.h,.slice p0 a0_g.tiles.length c0] 24]) ?_ ?_
 ·rintro v5 ⟨⟩ H
  try dsimp only [Ex.then] at H
  refine Cont.kq [] ?_
  obtain rfl:=sj H
  refine id (Cont.end0 rfl fun w' s=>?_)
  exact ⟨rfl,s.pc [0,1]⟩
 intro z4 hz4 HX4 hJ4
 refine T.block ?_
 refine T.loopA (γ:=Unit) hz4 [(1,_),(2,_),(4,_),(8,_),(9,_),(21,_),(22,_)] (fun (v6,l7) _=>[(23,.int .i64 v6)]) (fun (v6,l7) _=>Sat w0 [row nilH 3 (rowV q0 a1_k.length) l7,F,blk b1 [.int .i64 a0_g.w,.int .i64 a0_g.h,.slice p0 a0_g.tiles.length c0] 24]) () sb sb (fun w s=>s) ?_
 rintro ⟨v6,l7⟩ ⟨⟩ y8 H hd4 KL4 hL4
 try dsimp only [Ex.then] at H
 refine kq [23,1,2,4,8,9,21,22] ?_
 refine au 2 ?_
 refine T.seq fun _ k5=>?_
 refine T.cP H rfl (fun hc9 H=>?_) (fun hc9 H=>?_)
 ·refine T.skip (k5 _ _ ?_)
  refine T.seq fun _ k6=>T.block (T.seq fun _ k7=>T.region ?_)
  obtain ⟨g10,H⟩:=gdE H
  refine RS.know (p:=∃ bl ol,p1 = some ⟨bl,ol,none⟩) (fun w s=>R_ptr (h1 w (s.pc [1])) (ne_of_pos (pos_of g10))) ?_
  rintro ⟨bl11,ol12,rfl⟩
  refine rp (Pu.indexSl sl341.h rfl rfl g10) (rq (Qt.ldW (α:=Pr2) (cs:=[_,_]) (Rd.ofFrame 1 rfl h1) ty340.h rfl rfl g10 rfl (by rintro _ _ rfl; rfl)) (RS.solid (Sd.alloc zr340 rfl) rfl rfl fun b13=>RS.solid (Sd.stB (cs':=[_,_]) 3 ty340.h rfl rfl rfl rfl rfl rfl rfl rfl) rfl rfl fun _=>RS.nil (k7 _ _ (kq [1,2,4,8,9,11,21,22,23] ?_))))
  refine au 2 ?_
  refine T.seq fun _ k9=>T.seq fun _ k10=>T.region (au 2 ?_)
  refine rp (Pu.indexAr ar340 rfl rfl (by omega)) (rq (Qt.ldB 3 ty3.h rfl rfl rfl) ?_)
  obtain ⟨g14,H⟩:=gdE H
  refine rp (Pu.addS rfl rfl g14) (rM rfl (rp (Pu.indexAr ar340 rfl rfl (by omega)) (rq (Qt.ldB 3 ty3.h rfl rfl rfl) ?_)))
  obtain ⟨g15,H⟩:=gdE H
  refine rp (Pu.addS rfl rfl g15) ?_
  obtain ⟨x16,hx16,H⟩:=bindE H
  refine rq (Qt.call (vs:=[_,_,_]) ent304 rfl fun w s=>ground_On_walk a0_g ((a2_t % a0_g.w) + ((gi a3_ways v6).a)) ((a2_t / a0_g.w) + ((gi a3_ways v6).b)) w ((Rd.ofFrame 1 rfl h0) w s) hx16) (RS.nil (k10 _ _ ?_))
  refine T.joinE (σ:=Int) (γ:=Unit) H (fun s=>s) [(1,_),(2,_),(4,_),(8,_),(9,_),(21,_),(22,_),(23,_)] sb (fun v18 _=>[(12,.int .i64 v18)]) (fun v18 _=>Sat w0 [row nilH 3 (rowV q0 a1_k.length) l7,F,blk b1 [.int .i64 a0_g.w,.int .i64 a0_g.h,.slice p0 a0_g.tiles.length c0] 24,blk b13 [.int .i64 ((gi a3_ways v6).a),.int .i64 ((gi a3_ways v6).b)] 340]) ?_ ?_
  ·rintro v18 ⟨⟩ H
   try dsimp only [Ex.then] at H
   refine Cont.kq [12,1,2,4,8,9,21,22,23] ?_
   refine id (k9 _ _ ?_)
   refine T.region (au 4 ?_)
   obtain ⟨g19,H⟩:=gdE H
   refine RS.know (fun w s=>(s.row_fits (q:=q0) (m:=a1_k.length) (k:=0) rfl)) fun hf20=>?_
   refine RS.know (p:=∃ g cap,q0 = (some g,cap)) (fun w s=>(s.row_some (k:=0) rfl (pos_of (idx_of hf20.1 g19)))) ?_
   rintro ⟨gg21,cc22,rfl⟩
   refine rp (Pu.indexSl sl35.h rfl rfl g19) (rq (Qt.ld0 (α:=Int) (Rd.ofRowN 0 rfl) ty3.h rfl rfl (idx_of hf20.1 g19) (by rintro _ _ rfl; rfl)) (rM rfl ?_))
   obtain ⟨g23,H⟩:=gdE H
   refine rp (Pu.addS rfl rfl g23) (rp (Pu.minI rfl rfl) ?_)
   obtain ⟨g24,H⟩:=gdE H
   refine RS.know (fun w s=>(s.row_fits (q:=(some gg21,cc22)) (m:=a1_k.length) (k:=0) rfl)) fun hf25=>?_
   refine rp (Pu.indexSl sl35.h rfl rfl g24) (RS.solid (Sd.st0 (α:=Int) 0 (min (gi l7 a2_t) (v18 + 1)) rfl ty3.h rfl rfl rfl (idx_of hf25.1 g24) rfl rfl (by decide) rfl (by rintro _ _ rfl; rfl)) rfl rfl fun _=>RS.nil (k6 _ _ (kq [1,2,4,8,9,21,22,23] ?_)))
   refine T.region ?_
   obtain ⟨g26,H⟩:=gdE H
   refine rp (Pu.addS rfl rfl g26) (rM rfl (RS.nil (hL4 _ _ ((v6 + 1),(si l7 a2_t (min (gi l7 a2_t) (v18 + 1)))) () H sb sb (fun w s=>s.pc [0,1,2]))))
  intro z17 H HX17 hJ17
  refine T.cB H rfl (fun hc27 H=>?_) (fun hc27 H=>?_)
  ·refine kq [1,2,4,8,9,11,21,22,23] ?_
   refine T.region (au 2 ?_)
   refine rp (Pu.indexAr ar340 rfl rfl (by omega)) (rq (Qt.ldB 3 ty3.h rfl rfl rfl) ?_)
   obtain ⟨g28,H⟩:=gdE H
   refine rp (Pu.addS rfl rfl g28) (au 3 ?_)
   refine rp (Pu.indexAr ar340 rfl rfl (by omega)) (rq (Qt.ldB 3 ty3.h rfl rfl rfl) ?_)
   obtain ⟨g29,H⟩:=gdE H
   refine rp (Pu.addS rfl rfl g29) ?_
   obtain ⟨g30,H⟩:=gdE H
   refine rp (Pu.mulS rfl rfl g30) ?_
   obtain ⟨g31,H⟩:=gdE H
   refine rp (Pu.addS rfl rfl g31) ?_
   obtain ⟨g32,H⟩:=gdE H
   refine RS.know (fun w s=>(s.row_fits (q:=q0) (m:=a1_k.length) (k:=0) rfl)) fun hf33=>?_
   refine RS.know (p:=∃ g cap,q0 = (some g,cap)) (fun w s=>(s.row_some (k:=0) rfl (pos_of (idx_of hf33.1 g32)))) ?_
   rintro ⟨gg34,cc35,rfl⟩
   refine rp (Pu.indexSl sl35.h rfl rfl g32) (rq (Qt.ld0 (α:=Int) (Rd.ofRowN 0 rfl) ty3.h rfl rfl (idx_of hf33.1 g32) (by rintro _ _ rfl; rfl)) (rA rfl ?_))
   obtain rfl:=sj H
   refine RS.nil (hJ17 _ _ (gi l7 (((a2_t % a0_g.w) + ((gi a3_ways v6).a)) + (a0_g.w * ((a2_t / a0_g.w) + ((gi a3_ways v6).b))))) () HX17 sb sb (fun w s=>s))
  obtain rfl:=sj H
  refine T.skip (hJ17 _ _ 0 () HX17 sb sb (fun w s=>s))
 obtain rfl:=hd4 _ H
 refine T.xt (hJ4 _ _ l7 () HX4 trivial trivial (fun w s=>s))
theorem clear_Tiles_walk (a0_g:Grd) (a1_l:List Bld) (a2_class:Int) (w:World) {v0 v1:Value} (h0:R (hpOf w) a0_g.tiles [v0]) (h1:R (hpOf w) a1_l [v1]) {r:List Bool} (H:clear_Tiles a0_g a1_l a2_class = some r):Calls Tryz.prog 177 #[.agg #[.int .i64 a0_g.w,.int .i64 a0_g.h,v0],v1,.int .i64 a2_class] w fun e w'=>∃ q1:(Option Nat × Nat),e = .returned (rowV q1 r.length)∧Sat w [row nilH 4 (rowV q1 r.length) r] w':=by
 have hm0:=R_max h0
 obtain ⟨p0,c0,rfl⟩:=R_form h0
 have hm1:=R_max h1
 obtain ⟨p1,c1,rfl⟩:=R_form h1
 unfold clear_Tiles at H
 refine te Tryz.func177 (Sat.start w) ?_
 refine T.seq fun _ k1=>T.region (RS.solid (Sd.box (cs:=[_,_,_]) rfl rfl) rfl rfl fun b1=>rA rfl (RS.nil (k1 _ _ ?_)))
 refine T.seq fun _ k2=>T.region (au 2 ?_)
 obtain ⟨x2,hx2,H⟩:=bindE H
 refine RS.solid (Sd.callN (vs:=[_,_]) ent244 rfl (fun w s=>build_Cover_walk a0_g a1_l w ((Rd.base h0) w s) ((Rd.base h1) w s) hx2)) rfl rfl fun q3=>rA rfl (RS.nil (k2 _ _ (kq [2,3,7] ?_)))
 refine T.seq fun _ k3=>au 4 ?_
 refine T.joinE (σ:=List Bool) (γ:=Unit) H (fun s=>s) [(7,_)] sb (fun v5 _=>[]) (fun v5 _=>Sat w [blk b1 [.int .i64 a0_g.w,.int .i64 a0_g.h,.slice p0 a0_g.tiles.length c0] 24,row nilH 4 (rowV q3 x2.length) v5]) ?_ ?_
 ·rintro v5 ⟨⟩ H
  try dsimp only [Ex.then] at H
  refine Cont.kq [7] ?_
  refine id (k3 _ _ ?_)
  refine au 3 ?_
  obtain rfl:=sj H
  refine T.rt (Cont.ret1 rfl rfl fun w' s=>?_)
  exact ⟨q3,(by simp only [(s.row_fits (q:=q3) (m:=x2.length) (k:=1) rfl).1]; try rfl),(Sat.relen (q:=q3) (m:=x2.length) 1 s rfl).pick [1] (by decide) rfl⟩
 intro z4 hz4 HX4 hJ4
 refine T.block ?_
 refine T.loopA (γ:=Unit) hz4 [(2,_),(3,_),(7,_),(13,_),(14,_)] (fun (v6,l7) _=>[(15,.int .i64 v6)]) (fun (v6,l7) _=>Sat w [blk b1 [.int .i64 a0_g.w,.int .i64 a0_g.h,.slice p0 a0_g.tiles.length c0] 24,row nilH 4 (rowV q3 x2.length) l7]) () sb sb (fun w s=>s) ?_
 rintro ⟨v6,l7⟩ ⟨⟩ y8 H hd4 KL4 hL4
 try dsimp only [Ex.then] at H
 refine kq [15,2,3,7,13,14] ?_
 refine au 2 ?_
 refine T.seq fun _ k7=>?_
 refine T.cP H rfl (fun hc9 H=>?_) (fun hc9 H=>?_)
 ·refine T.skip (k7 _ _ ?_)
  refine T.seq fun _ k8=>T.block (T.seq fun _ k9=>T.region (rM rfl ?_))
  obtain ⟨g10,H⟩:=gdE H
  refine RS.know (fun w s=>(s.row_fits (q:=q3) (m:=x2.length) (k:=1) rfl)) fun hf11=>?_
  refine RS.know (p:=∃ g cap,q3 = (some g,cap)) (fun w s=>(s.row_some (k:=1) rfl (pos_of (idx_of hf11.1 g10)))) ?_
  rintro ⟨gg12,cc13,rfl⟩
  refine rp (Pu.indexSl sl41.h rfl rfl g10) (rq (Qt.ld0 (α:=Bool) (Rd.ofRowN 1 rfl) ty4.h rfl rfl (idx_of hf11.1 g10) (by rintro _ _ rfl; rfl)) (au 2 ?_))
  refine RS.nil (k9 _ _ (kq [2,3,7,8,9,13,14,15] ?_))
  refine T.region (au 5 ?_)
  refine RS.joinB H 9 33 (fun b16=>.bool b16) [(2,_),(3,_),(7,_),(13,_),(14,_),(15,_),(20,_),(21,_)] sb ?_ ?_
  ·intro b16 H
   obtain ⟨g17,H⟩:=gdE H
   refine RS.know (fun w s=>(s.row_fits (q:=(some gg12,cc13)) (m:=x2.length) (k:=1) rfl)) fun hf18=>?_
   refine rp (Pu.indexSl sl41.h rfl rfl g17) (RS.solid (Sd.st0 (α:=Bool) 1 b16 rfl ty4.h rfl rfl rfl (idx_of hf18.1 g17) rfl rfl (by decide) rfl (by rintro _ _ rfl; rfl)) rfl rfl fun _=>RS.nil (k8 _ _ (kq [2,3,7,13,14,15] ?_)))
   refine T.region ?_
   obtain ⟨g19,H⟩:=gdE H
   refine rp (Pu.addS rfl rfl g19) (rM rfl (RS.nil (hL4 _ _ ((v6 + 1),(si l7 v6 b16)) () H sb sb (fun w s=>s))))
  intro z20 H hJ15
  refine RS.split 24 rfl (fun hc14=>?_) (fun hc14=>?_)
  ·have H:=ifT hc14 H
   refine au 4 ?_
   obtain ⟨g21,H⟩:=gdE H
   obtain ⟨bl22,ol23,rfl⟩:=R_ptr h0 (ne_of_pos (pos_of g21))
   refine rp (Pu.indexSl sl22.h rfl rfl g21) (rq (Qt.ld0 (α:=UInt8) (Rd.base h0) ty5.h rfl rfl g21 (by rintro _ _ rfl; rfl)) ?_)
   obtain ⟨x24,hx24,H⟩:=bindE H
   refine rq (Qt.call (vs:=[_,_]) ent245 rfl fun w s=>kind_Price_walk a2_class ((gi a0_g.tiles v6).toNat:Int) w  hx24) (au 2 ?_)
   obtain rfl:=sj H
   exact hJ15 _ _ sb (fun w s=>s)
  have H:=ifB hc14 H
  refine au 9 ?_
  obtain rfl:=sj H
  exact hJ15 _ _ sb (fun w s=>s)
 obtain rfl:=hd4 _ H
 refine T.xt (hJ4 _ _ l7 () HX4 sb trivial (fun w s=>s))
theorem clear_Room_walk (a0_g:Grd) (a1_l:List Bld) (a2_class:Int) (w:World) {v0 v1:Value} (h0:R (hpOf w) a0_g.tiles [v0]) (h1:R (hpOf w) a1_l [v1]) {r:List Int} (H:clear_Room a0_g a1_l a2_class = some r):Calls Tryz.prog 206 #[.agg #[.int .i64 a0_g.w,.int .i64 a0_g.h,v0],v1,.int .i64 a2_class] w fun e w'=>∃ q1:(Option Nat × Nat),e = .returned (rowV q1 r.length)∧Sat w [row nilH 3 (rowV q1 r.length) r] w':=by
 have hm0:=R_max h0
 obtain ⟨p0,c0,rfl⟩:=R_form h0
 have hm1:=R_max h1
 obtain ⟨p1,c1,rfl⟩:=R_form h1
 unfold clear_Room at H
 refine te Tryz.func206 (Sat.start w) ?_
 refine T.seq fun _ k1=>T.region (RS.solid (Sd.box (cs:=[_,_,_]) rfl rfl) rfl rfl fun b1=>rA rfl (RS.nil (k1 _ _ ?_)))
 refine T.seq fun _ k2=>T.region (au 3 ?_)
 obtain ⟨g3,H⟩:=gdE H
 refine RS.solid (Sd.make (α:=Int) (B:=nilH) 0 sl35.h zr3 rfl (by decide) rfl rfl (by omega) (by omega) (by omega)) rfl rfl fun b2=>rA rfl (RS.nil (k2 _ _ (kq [1,2,3,7] ?_)))
 refine T.seq fun _ k3=>T.seq fun _ k4=>T.region (au 3 ?_)
 obtain ⟨x4,hx4,H⟩:=bindE H
 refine RS.solid (Sd.callN (vs:=[_,_,_]) ent177 rfl (fun w s=>clear_Tiles_walk a0_g a1_l a2_class w ((Rd.base h0) w s) ((Rd.base h1) w s) hx4)) rfl rfl fun q5=>au 2 ?_
 refine RS.nil (k4 _ _ (kq [3,7,19,20,21] ?_))
 refine T.joinE (σ:=List Int) (γ:=Unit) H (fun s=>s) [(3,_),(7,_)] sb (fun v7 _=>[]) (fun v7 _=>Sat w [blk b1 [.int .i64 a0_g.w,.int .i64 a0_g.h,.slice p0 a0_g.tiles.length c0] 24,row nilH 3 (rowV (some b2,(a0_g.tiles.length:Int).toNat) ((a0_g.tiles.length:Int).toNat)) v7,row nilH 4 (rowV q5 x4.length) x4]) ?_ ?_
 ·rintro v7 ⟨⟩ H
  try dsimp only [Ex.then] at H
  refine Cont.kq [3,7] ?_
  refine id (k3 _ _ ?_)
  refine T.seq fun _ k5=>au 4 ?_
  refine T.joinE (σ:=List Int) (γ:=Unit) H (fun s=>s) [(3,_),(7,_)] sb (fun v9 _=>[]) (fun v9 _=>Sat w [blk b1 [.int .i64 a0_g.w,.int .i64 a0_g.h,.slice p0 a0_g.tiles.length c0] 24,row nilH 3 (rowV (some b2,(a0_g.tiles.length:Int).toNat) ((a0_g.tiles.length:Int).toNat)) v9,row nilH 4 (rowV q5 x4.length) x4]) ?_ ?_
  ·rintro v9 ⟨⟩ H
   try dsimp only [Ex.then] at H
   refine Cont.kq [3,7] ?_
   refine id (k5 _ _ ?_)
   refine T.seq fun _ k7=>T.seq fun _ k8=>T.region (au 2 ?_)
   obtain ⟨g10,H⟩:=gdE H
   refine rp (Pu.subS rfl rfl g10) (rA rfl (RS.nil (k8 _ _ (kq [3,7,11] ?_))))
   refine T.joinE (σ:=List Int) (γ:=Unit) H (fun s=>s) [(7,_)] sb (fun v12 _=>[]) (fun v12 _=>Sat w [blk b1 [.int .i64 a0_g.w,.int .i64 a0_g.h,.slice p0 a0_g.tiles.length c0] 24,row nilH 3 (rowV (some b2,(a0_g.tiles.length:Int).toNat) ((a0_g.tiles.length:Int).toNat)) v12,row nilH 4 (rowV q5 x4.length) x4]) ?_ ?_
   ·rintro v12 ⟨⟩ H
    try dsimp only [Ex.then] at H
    refine Cont.kq [7] ?_
    refine id (k7 _ _ ?_)
    refine au 3 ?_
    obtain rfl:=sj H
    refine T.rt (Cont.ret1 rfl rfl fun w' s=>?_)
    exact ⟨(some b2,(a0_g.tiles.length:Int).toNat),(by simp only [(s.row_fits (q:=(some b2,(a0_g.tiles.length:Int).toNat)) (m:=(a0_g.tiles.length:Int).toNat) (k:=1) rfl).1]; try rfl),(Sat.relen (q:=(some b2,(a0_g.tiles.length:Int).toNat)) (m:=(a0_g.tiles.length:Int).toNat) 1 s rfl).pick [1] (by decide) rfl⟩
   intro z11 hz11 HX11 hJ11
   refine T.block ?_
   refine T.loopA (γ:=Unit) hz11 [(3,_),(7,_)] (fun (v13,l14) _=>[(11,.int .i64 v13)]) (fun (v13,l14) _=>Sat w [blk b1 [.int .i64 a0_g.w,.int .i64 a0_g.h,.slice p0 a0_g.tiles.length c0] 24,row nilH 3 (rowV (some b2,(a0_g.tiles.length:Int).toNat) ((a0_g.tiles.length:Int).toNat)) l14,row nilH 4 (rowV q5 x4.length) x4]) () sb sb (fun w s=>s) ?_
   rintro ⟨v13,l14⟩ ⟨⟩ y15 H hd11 KL11 hL11
   try dsimp only [Ex.then] at H
   refine kq [11,3,7] ?_
   refine T.seq fun _ k10=>au 3 ?_
   refine T.cP H rfl (fun hc16 H=>?_) (fun hc16 H=>?_)
   ·refine T.skip (k10 _ _ ?_)
    refine T.seq fun _ k12=>T.block (T.region (au 3 ?_))
    refine rp (Pu.buildAr (cells:=[_,_]) at340 rfl rfl) (rp (Pu.buildAr (cells:=[_,_]) at340 rfl rfl) (rp (Pu.buildAr (cells:=[_,_]) at340 rfl rfl) (rp (Pu.buildAr (cells:=[_,_]) at340 rfl rfl) (RS.solid (Sd.litS (cs:=[_,_,_,_,_,_,_,_]) sl341.h zr340 rfl rfl rfl rfl rfl) rfl rfl fun b17=>?_))))
    refine RS.weakS (fun w s=>s.litRow (α:=Pr2) (n:=4) 3 ([(⟨1,0⟩:Pr2),(⟨1,1⟩:Pr2),(⟨0,1⟩:Pr2),(⟨(-1),1⟩:Pr2)]:List Pr2) rfl (by decide) rfl ⟨[_,_],_,rfl,rfl,⟨[_,_],_,rfl,rfl,⟨[_,_],_,rfl,rfl,⟨[_,_],_,rfl,rfl,rfl⟩⟩⟩⟩) ?_
    obtain ⟨x18,hx18,H⟩:=bindE H
    refine RS.know (fun w s=>(s.row_fits (q:=(some b2,(a0_g.tiles.length:Int).toNat)) (m:=(a0_g.tiles.length:Int).toNat) (k:=1) rfl)) fun hf19=>?_
    refine RS.solid (Sd.callF0 (vs:=[_,_,_,_]) (C':=row nilH 3 (rowV (some b2,(a0_g.tiles.length:Int).toNat) ((a0_g.tiles.length:Int).toNat)) x18) (v:=.tuple #[]) 1 ent266 rfl rfl (fun w s=>clear_pass_walk a0_g l14 v13 ([(⟨1,0⟩:Pr2),(⟨1,1⟩:Pr2),(⟨0,1⟩:Pr2),(⟨(-1),1⟩:Pr2)]:List Pr2) hf19.1 (Rd.base h0) (Rd.rest 3 rfl (by decide) (Rd.ofRowN 0 rfl)) hx18 w s)) rfl rfl fun _=>RS.nil (k12 _ _ (kq [3,7,11] ?_))
    refine T.region (rM rfl ?_)
    obtain ⟨g20,H⟩:=gdE H
    refine rp (Pu.subS rfl rfl g20) (rA rfl (RS.nil (hL11 _ _ ((v13 - 1),x18) () H sb sb (fun w s=>s.pc [0,1,2]))))
   obtain rfl:=hd11 _ H
   refine T.xt (hJ11 _ _ l14 () HX11 sb trivial (fun w s=>s))
  intro z8 hz8 HX8 hJ8
  refine T.block ?_
  refine T.loopA (γ:=Unit) hz8 [(3,_),(7,_),(32,_)] (fun (v21,l22) _=>[(33,.int .i64 v21)]) (fun (v21,l22) _=>Sat w [blk b1 [.int .i64 a0_g.w,.int .i64 a0_g.h,.slice p0 a0_g.tiles.length c0] 24,row nilH 3 (rowV (some b2,(a0_g.tiles.length:Int).toNat) ((a0_g.tiles.length:Int).toNat)) l22,row nilH 4 (rowV q5 x4.length) x4]) () sb sb (fun w s=>s) ?_
  rintro ⟨v21,l22⟩ ⟨⟩ y23 H hd8 KL8 hL8
  try dsimp only [Ex.then] at H
  refine kq [33,3,7,32] ?_
  refine au 2 ?_
  refine T.seq fun _ k14=>?_
  refine T.cP H rfl (fun hc24 H=>?_) (fun hc24 H=>?_)
  ·refine T.skip (k14 _ _ ?_)
   refine T.seq fun _ k15=>T.block (au 3 ?_)
   refine T.region (au 3 ?_)
   refine rp (Pu.buildAr (cells:=[_,_]) at340 rfl rfl) (rp (Pu.buildAr (cells:=[_,_]) at340 rfl rfl) (rp (Pu.buildAr (cells:=[_,_]) at340 rfl rfl) (rp (Pu.buildAr (cells:=[_,_]) at340 rfl rfl) (RS.solid (Sd.litS (cs:=[_,_,_,_,_,_,_,_]) sl341.h zr340 rfl rfl rfl rfl rfl) rfl rfl fun b25=>?_))))
   refine RS.weakS (fun w s=>s.litRow (α:=Pr2) (n:=4) 3 ([(⟨(-1),0⟩:Pr2),(⟨(-1),(-1)⟩:Pr2),(⟨0,(-1)⟩:Pr2),(⟨1,(-1)⟩:Pr2)]:List Pr2) rfl (by decide) rfl ⟨[_,_],_,rfl,rfl,⟨[_,_],_,rfl,rfl,⟨[_,_],_,rfl,rfl,⟨[_,_],_,rfl,rfl,rfl⟩⟩⟩⟩) ?_
   obtain ⟨x26,hx26,H⟩:=bindE H
   refine RS.know (fun w s=>(s.row_fits (q:=(some b2,(a0_g.tiles.length:Int).toNat)) (m:=(a0_g.tiles.length:Int).toNat) (k:=1) rfl)) fun hf27=>?_
   refine RS.solid (Sd.callF0 (vs:=[_,_,_,_]) (C':=row nilH 3 (rowV (some b2,(a0_g.tiles.length:Int).toNat) ((a0_g.tiles.length:Int).toNat)) x26) (v:=.tuple #[]) 1 ent266 rfl rfl (fun w s=>clear_pass_walk a0_g l22 v21 ([(⟨(-1),0⟩:Pr2),(⟨(-1),(-1)⟩:Pr2),(⟨0,(-1)⟩:Pr2),(⟨1,(-1)⟩:Pr2)]:List Pr2) hf27.1 (Rd.base h0) (Rd.rest 3 rfl (by decide) (Rd.ofRowN 0 rfl)) hx26 w s)) rfl rfl fun _=>RS.nil (k15 _ _ (kq [3,7,32,33] ?_))
   refine T.region ?_
   obtain ⟨g28,H⟩:=gdE H
   refine rp (Pu.addS rfl rfl g28) (rM rfl (RS.nil (hL8 _ _ ((v21 + 1),x26) () H sb sb (fun w s=>s.pc [0,1,2]))))
  obtain rfl:=hd8 _ H
  refine T.xt (hJ8 _ _ l22 () HX8 sb trivial (fun w s=>s))
 intro z6 hz6 HX6 hJ6
 refine T.block ?_
 refine T.loopA (γ:=Unit) hz6 [(3,_),(7,_),(19,_),(20,_)] (fun (v29,l30) _=>[(21,.int .i64 v29)]) (fun (v29,l30) _=>Sat w [blk b1 [.int .i64 a0_g.w,.int .i64 a0_g.h,.slice p0 a0_g.tiles.length c0] 24,row nilH 3 (rowV (some b2,(a0_g.tiles.length:Int).toNat) ((a0_g.tiles.length:Int).toNat)) l30,row nilH 4 (rowV q5 x4.length) x4]) () sb sb (fun w s=>s) ?_
 rintro ⟨v29,l30⟩ ⟨⟩ y31 H hd6 KL6 hL6
 try dsimp only [Ex.then] at H
 refine kq [21,3,7,19,20] ?_
 refine au 2 ?_
 refine T.seq fun _ k18=>?_
 refine T.cP H rfl (fun hc32 H=>?_) (fun hc32 H=>?_)
 ·refine T.skip (k18 _ _ ?_)
  refine T.seq fun _ k19=>T.block (T.seq fun _ k20=>T.region (rM rfl ?_))
  obtain ⟨g33,H⟩:=gdE H
  refine RS.know (p:=∃ g cap,q5 = (some g,cap)) (fun w s=>(s.row_some (k:=2) rfl (pos_of g33))) ?_
  rintro ⟨gg34,cc35,rfl⟩
  refine rp (Pu.indexSl sl41.h rfl rfl g33) (rq (Qt.ld0 (α:=Bool) (Rd.ofRowN 2 rfl) ty4.h rfl rfl g33 (by rintro _ _ rfl; rfl)) (au 2 ?_))
  refine RS.nil (k20 _ _ (kq [3,7,8,9,19,20,21] ?_))
  refine au 2 ?_
  refine T.cB H rfl (fun hc36 H=>?_) (fun hc36 H=>?_)
  ·refine T.region (au 2 ?_)
   obtain ⟨g37,H⟩:=gdE H
   refine RS.know (fun w s=>(s.row_fits (q:=(some b2,(a0_g.tiles.length:Int).toNat)) (m:=(a0_g.tiles.length:Int).toNat) (k:=1) rfl)) fun hf38=>?_
   refine rp (Pu.indexSl sl35.h rfl rfl g37) (RS.solid (Sd.st0 (α:=Int) 1 128 rfl ty3.h rfl rfl rfl (idx_of hf38.1 g37) rfl rfl (by decide) rfl (by rintro _ _ rfl; rfl)) rfl rfl fun _=>RS.nil (k19 _ _ (kq [3,7,19,20,21] ?_)))
   refine T.region ?_
   obtain ⟨g39,H⟩:=gdE H
   refine rp (Pu.addS rfl rfl g39) (rM rfl (RS.nil (hL6 _ _ ((v29 + 1),(si l30 v29 128)) () H sb sb (fun w s=>s))))
  refine T.skip (k19 _ _ (kq [3,7,19,20,21] ?_))
  refine T.region ?_
  obtain ⟨g40,H⟩:=gdE H
  refine rp (Pu.addS rfl rfl g40) (rM rfl (RS.nil (hL6 _ _ ((v29 + 1),l30) () H sb sb (fun w s=>s))))
 obtain rfl:=hd6 _ H
 refine T.xt (hJ6 _ _ l30 () HX6 sb trivial (fun w s=>s))
end Go.Proofs.YtmngdgclldkcfaaGreat
set_option linter.unusedVariables false
set_option linter.unusedSimpArgs false
set_option maxRecDepth 20000
set_option maxHeartbeats 4000000
namespace Go.Proofs.YtmngdgclldkcfaaGreat
open Go.Vg
open Enc (R)
theorem zr5:zeroOf Tryz.prog 5 = some (.int .u8 0):=by kernel_rfl
theorem cloneByte_calls_nil {l:List UInt8} {n c:Nat} (w:World) (hA:R (hpOf w) l [.slice none n c]):Calls Tryz.prog 65 #[.slice none n c] w fun e w'=>∃ q:Option Nat × Nat,e = .returned (rowV q l.length)∧Sat w [row nilH 5 (rowV q l.length) l] w':=by
 refine T.enter (args:=[.slice none n c]) (S:=Sat w []) Tryz.func65 rfl rfl (Sat.start w) ?_
 refine au 2 ?_
 refine T.seq fun _ k2=>T.seq fun _ k3=>T.region (rM rfl (rp (Pu.eqNilSl usl22 rfl) (RS.nil (k3 _ _ ?_))))
 refine T.cond rfl (fun hc4=>?_) (fun hc4=>?_)
 ·refine kq [] ?_
  refine au 2 ?_
  refine T.retTo (by with_reducible ((repeat (first | apply RetTo.seq | apply RetTo.blk)); exact RetTo.refl _)) (Cont.ret1 rfl rfl fun w' s=>?_)
  have hl0:l = []:=by
   obtain ⟨p',c',e',s1,s2,s3⟩:=hA
   simp only [List.cons.injEq,Value.slice.injEq,and_true] at e'
   obtain ⟨rfl,rfl,rfl⟩:=e'
   rcases s3 with h | ⟨b,o,cs,h,_⟩
   ·exact h
   cases h
  subst hl0
  exact ⟨(none,0),rfl,s.addEmpty _ (fun p=>.inl ⟨rfl,rfl⟩)⟩
 exact absurd hc4 (by simp) -- end
theorem cloneByte_calls_some {l:List UInt8} {a:Addr} {n c:Nat} (hsz:n < 1099511627776) (w:World) (hA:R (hpOf w) l [.slice (some a) n c]):Calls Tryz.prog 65 #[.slice (some a) n c] w fun e w'=>∃ q:Option Nat × Nat,e = .returned (rowV q l.length)∧Sat w [row nilH 5 (rowV q l.length) l] w':=by
 refine T.enter (args:=[.slice (some a) n c]) (S:=Sat w []) Tryz.func65 rfl rfl (Sat.start w) ?_
 refine au 2 ?_
 refine T.seq fun _ k2=>T.seq fun _ k3=>T.region (rM rfl (rp (Pu.eqNilSl usl22 rfl) (RS.nil (k3 _ _ ?_))))
 refine T.cond rfl (fun hc4=>?_) (fun hc4=>?_)
 ·exact absurd hc4 (by simp) -- end
 refine T.skip (k2 _ _ (kq [0] ?_))
 refine T.seq fun _ k4=>T.region (RS.solid (Sd.lit0 (α:=UInt8) (B:=nilH) sl22.h) rfl rfl fun b5=>rM rfl (RS.solid (Sd.appB (α:=UInt8) 0 (nilH_lt _) rfl sl22.h zr5 rfl rfl rfl hA (by simp only [List.length_nil]; omega) (by simp only [List.length_nil]; unfold maxLen; omega)) rfl rfl fun q7=>rA rfl (RS.nil (k4 _ _ (kq [2] ?_)))))
 refine T.retTo (by with_reducible ((repeat (first | apply RetTo.seq | apply RetTo.blk)); exact RetTo.refl _)) (Cont.ret1 rfl rfl fun w' s=>?_)
 have hn:n = l.length:=(R_len hA).1
 simp only [List.length_nil,Nat.zero_add,List.nil_append] at s
 subst hn
 exact ⟨q7,by simp,s.pick (G':=[_]) [0] (by decide) rfl⟩
theorem cloneByte_calls {l:List UInt8} {v:Value} (hsz:l.length < 1099511627776) (w:World) (hA:R (hpOf w) l [v]):Calls Tryz.prog 65 #[v] w fun e w'=>∃ q:Option Nat × Nat,e = .returned (rowV q l.length)∧Sat w [row nilH 5 (rowV q l.length) l] w':=by
 obtain ⟨p,c,rfl⟩:=R_form hA
 cases p with
 | none=>exact cloneByte_calls_nil w hA
 | some a=>exact cloneByte_calls_some hsz w hA
def slices_Clone_Byte (l:List UInt8):Option (List UInt8):=if l.length < 1099511627776 then some l else none
theorem slices_Clone_Byte_walk (l:List UInt8) (w:World) {v0:Value} (h0:R (hpOf w) l [v0]) {r:List UInt8} (H:slices_Clone_Byte l = some r):Calls Tryz.prog 65 #[v0] w fun e w'=>∃ g:(Option Nat × Nat),e = .returned (rowV g r.length)∧Sat w [row nilH 5 (rowV g r.length) r] w':=by
 unfold slices_Clone_Byte at H
 obtain ⟨h1,H⟩:=gdE H
 obtain rfl:=sj H
 exact cloneByte_calls h1 w h0
end Go.Proofs.YtmngdgclldkcfaaGreat
set_option linter.unusedVariables false
set_option linter.unusedSimpArgs false
set_option linter.unusedVariables false
namespace Go.Vg
open Enc (R)
open Go
variable {P:Program} {n:Nat} {fr:Fr} {S:As} {dst:Option Tmp} {ty:TypeId} {pos:String} {aft:Array Edge} {g:Option (Nat × Bool)}
end Go.Vg
set_option linter.unusedSimpArgs false
set_option linter.unusedVariables false
namespace Go.Vg
open Go.RowKit (Below)
open Enc (R)
structure RawN (n:Nat) where
  c:List Value
  hl:c.length = n
  h1:∀ u ∈ c,u.oneCell' = true
instance {n:Nat}:Inhabited (RawN n):=⟨⟨List.replicate n (.bool false),by simp,fun u hu=>by rw [List.eq_of_mem_replicate hu]; rfl⟩⟩
instance {n:Nat}:Enc (RawN n) where
  sz:=n
  R _ x cs:=cs = x.c
  len:=fun {h x cs} e=>by rw [e]; exact x.hl
  one:=fun {h x cs} e=>by rw [e]; exact x.h1
  mono:=fun _ h=>h
instance {n:Nat}:Flat (RawN n):=⟨fun h=>h⟩
section
variable {α:Type} [Enc α] [Deep α] {n:Nat}
def DN:Hp→List (α × RawN n)→Prop
  | _,[]=>True
  | h,z :: zs=>∃ p q,Deep.D p z.1 z.2.c∧DN q zs∧(∀ b,p b = none ∨ q b = none)∧Hp.le p h∧Hp.le q h
theorem DN.mono {h h':Hp} (hl:h.le h'):∀ {zs:List (α × RawN n)},DN h zs→DN h' zs
 | [],_=>trivial
 | _ :: _,⟨p,q,a,b,d,l1,l2⟩=>⟨p,q,a,b,d,Hp.le_trans l1 hl,Hp.le_trans l2 hl⟩
variable {w0 w:World} {G:List Ch}
end
end Go.Vg
set_option linter.unusedSimpArgs false
set_option linter.unusedVariables false
namespace Go.Vg
open Enc (R)
section
variable {P:Program} {n:Nat} {fr:Fr} {dst:Option Tmp} {ty:TypeId} {pos:String} {aft:Array Edge} {g:Option (Nat × Bool)} {S:As} {w0 w:World} {G:List Ch} {F:Ch}
end
end Go.Vg
set_option linter.unusedSimpArgs false
set_option linter.unusedVariables false
namespace Go.Vg
open Go.RowKit (Below)
open Enc (R)
section
variable {w0 w:World} {G:List Ch} {α:Type} [Enc α]
def FA (B:Hp):Hp→List α→List Value→Prop:=fun _ xs cs=>RF B xs cs
instance {B:Hp}:PhM w0 (FA (α:=α) B):=⟨fun _ _ d=>d⟩
theorem Sat.nilRowA {B:Hp} (e:TypeId) (h:Sat w0 G w):Sat w0 (G ++ [rowG (FA B) e (rowV (none,0) 0) ([]:List α)]) w:=h.addEmpty _ (fun p=>.inl ⟨rfl,rfl,rfl⟩)
end
section
variable {P:Program} {n:Nat} {fr:Fr} {dst:Option Tmp} {ty:TypeId} {pos:String} {aft:Array Edge} {g:Option (Nat × Bool)} {S:As} {w0:World} {G:List Ch}
end
end Go.Vg
set_option linter.unusedVariables false
namespace Go.Vg
open Enc (R)
open Go
variable {P:Program} {n:Nat} {fr:Fr} {S:As} {dst:Option Tmp} {ty:TypeId} {pos:String} {aft:Array Edge} {g:Option (Nat × Bool)}
end Go.Vg
