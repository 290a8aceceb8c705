/-
  Walks of the bytes of worlds.
-/
import Derived.Test.YtmngdgclldkcfaaGreatRows
import Derived.Test.YtmngdgclldkcfaaGreatJ6
import Derived.Test.YtmngdgclldkcfaaGreatJ7
import Derived.Test.YtmngdgclldkcfaaGreatJ12
import Derived.Test.YtmngdgclldkcfaaGreatJ13
set_option linter.unusedVariables false
set_option linter.unusedSimpArgs false
set_option maxRecDepth 20000
set_option maxHeartbeats 4000000
namespace Go.Proofs.YtmngdgclldkcfaaGreat
open Go.Vg
open Enc (R)
theorem wire_Put_walk {w0:World} {F:Ch} (a0_b:List UInt8) (a1_n:Int) {q0:Option Nat × Nat} {m0:Nat} (hm:m0 = a0_b.length) {r:List UInt8} (H:wire_Put a0_b a1_n = some r) (w:World) (s:Sat w0 [rowM 5 (rowV q0 m0) a0_b,F] w):Calls Tryz.prog 274 #[rowV q0 m0,.int .i64 a1_n] w fun e w'=>∃ q:Option Nat × Nat,e = .returned (rowV q r.length)∧Sat w0 [rowM 5 (rowV q r.length) r,F] w':=by
 subst hm
 unfold wire_Put at H
 refine te Tryz.func274 s ?_
 refine au 2 ?_
 refine T.joinA (σ:=Int × List UInt8) (γ:=(Option Nat × Nat)) H (fun s=>s) [] trivial (fun (v2,v3) q4=>[(0,rowV q4 v3.length),(1,.int .i64 v2)]) (fun (v2,v3) q4=>Sat w0 [rowM 5 (rowV q4 v3.length) v3,F]) ?_ ?_
 ·rintro ⟨v2,v3⟩ q4 H
  try dsimp only [Ex.then] at H
  refine kq [0,1] ?_
  refine T.seq fun _ k3=>T.region (au 2 ?_)
  refine rp (Pu.convB us3 ul5 rfl) (RS.solid (Sd.litS (cs:=[_]) sl22.h zr5 rfl rfl rfl rfl rfl) rfl rfl fun b5=>?_)
  obtain ⟨g7,H⟩:=gdE H
  refine RS.solid (Sd.app1M (α:=UInt8) 0 2 (UInt8.ofNat (v2 % 256).toNat) rfl rfl sl22.h zr5 rfl rfl rfl rfl g7 (by decide)) rfl rfl fun q6=>rA rfl (RS.nil (k3 _ _ (kq [4] ?_)))
  obtain rfl:=sj H
  refine T.rt (Cont.ret1 rfl rfl fun w' s=>?_)
  exact ⟨q6,rfl,s.pc [0,1]⟩
 intro z1 hz1 HX1 K2 hJ1
 refine T.block ?_
 refine T.loopA (γ:=(Option Nat × Nat)) hz1 [] (fun (v8,l9) q10=>[(0,rowV q10 l9.length),(1,.int .i64 v8)]) (fun (v8,l9) q10=>Sat w0 [rowM 5 (rowV q10 l9.length) l9,F]) q0 trivial sb (fun w s=>s) ?_
 rintro ⟨v8,l9⟩ q10 y11 H hd1 KL1 hL1
 try dsimp only [Ex.then] at H
 refine kq [0,1] ?_
 refine T.seq fun _ k4=>au 3 ?_
 refine T.cP H rfl (fun hc12 H=>?_) (fun hc12 H=>?_)
 ·refine T.skip (k4 _ _ ?_)
  refine T.seq fun _ k6=>T.block (T.region (au 2 ?_))
  refine rp (Pu.convB us3 ul5 rfl) (rp (Pu.orBc (q:=(128:UInt8)) rfl rfl (by decide)) (RS.solid (Sd.litS (cs:=[_]) sl22.h zr5 rfl rfl rfl rfl rfl) rfl rfl fun b13=>?_))
  obtain ⟨g15,H⟩:=gdE H
  refine RS.solid (Sd.app1M (α:=UInt8) 0 2 ((UInt8.ofNat (v8 % 256).toNat) ||| (128:UInt8)) rfl rfl sl22.h zr5 rfl rfl rfl rfl g15 (by decide)) rfl rfl fun q14=>rA rfl (RS.nil (k6 _ _ (kq [0,1] ?_)))
  refine T.region (rM rfl ?_)
  obtain ⟨g16,H⟩:=gdE H
  refine rp (Pu.shrV rfl rfl g16) (rA rfl (RS.nil (hL1 _ _ ((v8 / 2 ^ (7:Int).toNat),(l9 ++ [((UInt8.ofNat (v8 % 256).toNat) ||| (128:UInt8))])) q14 H trivial sb (fun w s=>s.pc [0,1]))))
 obtain rfl:=hd1 _ H
 refine T.xt (hJ1 _ _ (v8,l9) q10 HX1 trivial sb (fun w s=>s))
theorem wire_Int_walk (a0_n:Int) (w:World) {r:List UInt8 × Int} (H:wire_Int a0_n = some r):Calls Tryz.prog 277 #[.int .i64 a0_n] w fun e w'=>∃ q1:(Option Nat × Nat),e = .returned (.tuple #[rowV q1 r.1.length,.int .i64 r.2])∧Sat w [rowM 5 (rowV q1 r.1.length) r.1] w':=by
 unfold wire_Int at H
 refine te Tryz.func277 (Sat.start w) ?_
 refine au 3 ?_
 refine T.seq fun _ k2=>T.block (T.seq fun _ k3=>T.region (au 3 ?_))
 refine RS.joinV 3 10 (.bool (decide ((a0_n < (-4611686018427387904)) ∨ (4611686018427387904 ≤ a0_n)))) [(0,_)] sb ?_ ?_
 ·refine rA rfl (RS.nil (k3 _ _ ?_))
  refine T.cP H rfl (fun _ H=>nomatch H) (fun hc3 H=>?_)
  refine au 4 ?_
  refine T.cP H rfl (fun _ H=>nomatch H) (fun hc4 H=>?_)
  refine T.skip (k2 _ _ (kq [0] ?_))
  refine T.seq fun _ k7=>T.region (rM rfl ?_)
  obtain ⟨g5,H⟩:=gdE H
  refine rp (Pu.mulS rfl rfl g5) ?_
  refine RS.weakS (fun w s=>(s.nilRowM (α:=UInt8) 5)) ?_
  obtain ⟨x6,hx6,H⟩:=bindE H
  refine RS.solid (Sd.callM (vs:=[rowV (none,0) 0,.int .i64 (2 * a0_n)]) 0 ent274 rfl rfl (fun w s=>wire_Put_walk [] (2 * a0_n) rfl  hx6 w s)) rfl rfl fun q7=>au 2 ?_
  refine RS.nil (k7 _ _ (kq [2,3] ?_))
  obtain rfl:=sj H
  refine T.rt (Cont.ret2 rfl rfl rfl fun w' s=>?_)
  exact ⟨q7,rfl,s.pc [0]⟩
 intro hJ2
 refine RS.splitP 7 rfl (fun hc1=>?_) (fun hc1=>?_)
 ·refine au 3 ?_
  exact hJ2 _ _ ⟨dOrT hc1,rfl,trivial⟩ (fun w s=>s)
 refine au 3 ?_
 exact hJ2 _ _ ⟨dOrF hc1,rfl,trivial⟩ (fun w s=>s)
theorem wire_Raw_walk (a0_b:List UInt8) (w:World) {v0:Value} (h0:R (hpOf w) a0_b [v0]) {r:List UInt8 × Int} (H:wire_Raw a0_b = some r):Calls Tryz.prog 275 #[v0] w fun e w'=>∃ q1:(Option Nat × Nat),e = .returned (.tuple #[rowV q1 r.1.length,.int .i64 r.2])∧Sat w [rowM 5 (rowV q1 r.1.length) r.1] w':=by
 have hm0:=R_max h0
 obtain ⟨p0,c0,rfl⟩:=R_form h0
 unfold wire_Raw at H
 refine te Tryz.func275 (Sat.start w) ?_
 refine au 3 ?_
 refine T.seq fun _ k2=>au 4 ?_
 refine T.cP H rfl (fun hc1 H=>?_) (fun hc1 H=>?_)
 ·refine kq [] ?_
  refine au 3 ?_
  obtain rfl:=sj H
  refine T.rt (Cont.ret2 rfl rfl rfl fun w' s=>?_)
  exact ⟨(none,0),rfl,(s.nilRowM (α:=UInt8) 5).pick [0] (by decide) rfl⟩
 refine T.skip (k2 _ _ (kq [0] ?_))
 refine T.seq fun _ k5=>T.region (au 2 ?_)
 refine RS.weakS (fun w s=>(s.nilRowM (α:=UInt8) 5)) ?_
 obtain ⟨x2,hx2,H⟩:=bindE H
 refine RS.solid (Sd.callM (vs:=[rowV (none,0) 0,.int .i64 (a0_b.length:Int)]) 0 ent274 rfl rfl (fun w s=>wire_Put_walk [] (a0_b.length:Int) rfl  hx2 w s)) rfl rfl fun q3=>rM rfl ?_
 obtain ⟨g5,H⟩:=gdE H
 refine RS.solid (Sd.appRM (α:=UInt8) 0 rfl sl22.h zr5 rfl rfl rfl (Rd.base h0) g5 (by decide)) rfl rfl fun q4=>au 2 ?_
 refine RS.nil (k5 _ _ (kq [2,3] ?_))
 obtain rfl:=sj H
 refine T.rt (Cont.ret2 rfl rfl rfl fun w' s=>?_)
 exact ⟨q4,rfl,s.pc [0]⟩
theorem fnv_Start_walk (w:World) {r:UInt64} (H:fnv_Start = some r):Calls Tryz.prog 231 #[] w fun e w'=>e = .returned (.int .u64 (r.toNat:Int))∧Ext w w':=by
 unfold fnv_Start at H
 refine te Tryz.func231 (Sat.start w) ?_
 refine au 4 ?_
 obtain rfl:=sj H
 refine T.rt (Cont.ret1 rfl rfl fun w' s=>?_)
 exact ⟨rfl,s.ext⟩
theorem fnv_Sum_walk (a0_s:UInt64) (a1_b:List UInt8) (w:World) {v0:Value} (h0:R (hpOf w) a1_b [v0]) {r:UInt64} (H:fnv_Sum a0_s a1_b = some r):Calls Tryz.prog 230 #[.int .u64 a0_s.toNat,v0] w fun e w'=>e = .returned (.int .u64 (r.toNat:Int))∧Ext w w':=by
 have hm0:=R_max h0
 obtain ⟨p0,c0,rfl⟩:=R_form h0
 unfold fnv_Sum at H
 refine te Tryz.func230 (Sat.start w) ?_
 refine au 2 ?_
 refine T.seq fun _ k2=>au 4 ?_
 refine T.joinE (σ:=UInt64) (γ:=Unit) H (fun s=>s) [] trivial (fun v2 _=>[(0,.int .u64 (v2.toNat:Int))]) (fun v2 _=>Sat w []) ?_ ?_
 ·rintro v2 ⟨⟩ H
  try dsimp only [Ex.then] at H
  refine Cont.kq [0] ?_
  refine id (k2 _ _ ?_)
  refine au 3 ?_
  obtain rfl:=sj H
  refine T.rt (Cont.ret1 rfl rfl fun w' s=>?_)
  exact ⟨rfl,s.ext⟩
 intro z1 hz1 HX1 hJ1
 refine T.block ?_
 refine T.loopA (γ:=Unit) hz1 [(7,_),(8,_)] (fun (v3,v4) _=>[(0,.int .u64 (v3.toNat:Int)),(9,.int .i64 v4)]) (fun (v3,v4) _=>Sat w []) () sb sb (fun w s=>s) ?_
 rintro ⟨v3,v4⟩ ⟨⟩ y5 H hd1 KL1 hL1
 try dsimp only [Ex.then] at H
 refine kq [0,9,7,8] ?_
 refine au 2 ?_
 refine T.seq fun _ k6=>?_
 refine T.cP H rfl (fun hc6 H=>?_) (fun hc6 H=>?_)
 ·refine T.skip (k6 _ _ ?_)
  refine T.seq fun _ k7=>T.block (T.seq fun _ k8=>T.region ?_)
  obtain ⟨g7,H⟩:=gdE H
  obtain ⟨bl8,ol9,rfl⟩:=R_ptr h0 (ne_of_pos (pos_of g7))
  refine rp (Pu.indexSl sl22.h rfl rfl g7) (rq (Qt.ld0 (α:=UInt8) (Rd.base h0) ty5.h rfl rfl g7 (by rintro _ _ rfl; rfl)) (rA rfl (RS.nil (k8 _ _ (kq [0,6,7,8,9] ?_)))))
  refine T.region (au 2 ?_)
  refine rp (Pu.convBH us5 ul112 rfl) (rp (Pu.xorH (q:=(gi a1_b v4).toUInt64) rfl rfl) (rp (Pu.mulHc (q:=(1099511628211:UInt64)) rfl rfl (by decide)) (rA rfl (RS.nil (k7 _ _ (kq [0,7,8,9] ?_))))))
  refine T.region ?_
  obtain ⟨g10,H⟩:=gdE H
  refine rp (Pu.addS rfl rfl g10) (rM rfl (RS.nil (hL1 _ _ (((v3 ^^^ ((gi a1_b v4).toUInt64)) * (1099511628211:UInt64)),(v4 + 1)) () H sb sb (fun w s=>s))))
 obtain rfl:=hd1 _ H
 refine T.xt (hJ1 _ _ v3 () HX1 trivial sb (fun w s=>s))
theorem fnv_Bytes_walk (a0_s:UInt64) (w:World) {r:List UInt8} (H:fnv_Bytes a0_s = some r):Calls Tryz.prog 309 #[.int .u64 a0_s.toNat] w fun e w'=>∃ q1:(Option Nat × Nat),e = .returned (rowV q1 r.length)∧Sat w [row nilH 5 (rowV q1 r.length) r] w':=by
 unfold fnv_Bytes at H
 refine te Tryz.func309 (Sat.start w) ?_
 refine au 2 ?_
 refine T.seq fun _ k2=>au 2 ?_
 refine T.joinE (σ:=List UInt8) (γ:=(Option Nat × Nat)) H (fun s=>s) [] trivial (fun v2 q3=>[(2,rowV q3 v2.length)]) (fun v2 q3=>Sat w [row nilH 5 (rowV q3 v2.length) v2]) ?_ ?_
 ·rintro v2 q3 H
  try dsimp only [Ex.then] at H
  refine Cont.kq [2] ?_
  refine id (k2 _ _ ?_)
  refine au 3 ?_
  obtain rfl:=sj H
  refine T.rt (Cont.ret1 rfl rfl fun w' s=>?_)
  exact ⟨q3,rfl,s.pc [0]⟩
 intro z1 hz1 HX1 hJ1
 refine T.block ?_
 refine T.loopA (γ:=(Option Nat × Nat)) hz1 [] (fun (v4,l5,v7) q6=>[(0,.int .u64 (v4.toNat:Int)),(2,rowV q6 l5.length),(3,.int .i64 v7)]) (fun (v4,l5,v7) q6=>Sat w [row nilH 5 (rowV q6 l5.length) l5]) (none,0) trivial sb (fun w s=>(s.nilRow (α:=UInt8) 5).pick [0] (by decide) rfl) ?_
 rintro ⟨v4,l5,v7⟩ q6 y8 H hd1 KL1 hL1
 try dsimp only [Ex.then] at H
 refine kq [0,2,3] ?_
 refine au 2 ?_
 refine T.seq fun _ k6=>?_
 refine T.cP H rfl (fun hc9 H=>?_) (fun hc9 H=>?_)
 ·refine T.skip (k6 _ _ ?_)
  refine T.seq fun _ k7=>T.block (T.seq fun _ k8=>T.region (au 2 ?_))
  refine rp (Pu.convB us112 ul5 rfl) (RS.solid (Sd.litS (cs:=[_]) sl22.h zr5 rfl rfl rfl rfl rfl) rfl rfl fun b10=>?_)
  obtain ⟨g12,H⟩:=gdE H
  refine RS.solid (Sd.app1c (α:=UInt8) 0 1 (UInt8.ofNat ((v4.toNat:Int) % 256).toNat) rfl rfl (nilH_lt _) sl22.h zr5 rfl rfl rfl rfl g12 (by decide)) rfl rfl fun q11=>rA rfl (RS.nil (k8 _ _ (kq [0,2,3] ?_)))
  refine T.region (rM rfl (rp (Pu.shrHc (q:=(8:UInt64)) rfl rfl (by decide) (by decide)) (rA rfl (RS.nil (k7 _ _ ?_)))))
  refine T.region ?_
  obtain ⟨g13,H⟩:=gdE H
  refine rp (Pu.addS rfl rfl g13) (rM rfl (RS.nil (hL1 _ _ ((v4 >>> (8:UInt64)),(l5 ++ [(UInt8.ofNat ((v4.toNat:Int) % 256).toNat)]),(v7 + 1)) q11 H trivial sb (fun w s=>s.pc [0]))))
 obtain rfl:=hd1 _ H
 refine T.xt (hJ1 _ _ l5 q6 HX1 trivial sb (fun w s=>s))
theorem mapcode_Lay_walk (a0_g:Grd) (w:World) {v0:Value} (h0:R (hpOf w) a0_g.tiles [v0]) {r:List UInt8} (H:mapcode_Lay a0_g = some r):Calls Tryz.prog 276 #[.agg #[.int .i64 a0_g.w,.int .i64 a0_g.h,v0]] w fun e w'=>∃ q1:(Option Nat × Nat),e = .returned (rowV q1 r.length)∧Sat w [rowM 5 (rowV q1 r.length) r] w':=by
 have hm0:=R_max h0
 obtain ⟨p0,c0,rfl⟩:=R_form h0
 unfold mapcode_Lay at H
 refine te Tryz.func276 (Sat.start w) ?_
 refine T.seq fun _ k1=>T.region (RS.solid (Sd.box (cs:=[_,_,_]) rfl rfl) rfl rfl fun b1=>rA rfl (RS.nil (k1 _ _ ?_)))
 refine T.seq fun _ k2=>?_
 refine T.drawnS [0] [(2,.pu),(3,.wk),(5,.pu),(6,.wk),(8,.pu),(9,.wk),(0,.so),(1,.br),(4,.br),(7,.br),(10,.br),(11,.pu)] mixed (by kernel_rfl) rfl ?_
 refine au 6 ?_
 refine RD.solid rfl (.inl rfl) rfl rfl (Sd.litS (cs:=[_,_]) sl22.h zr5 rfl rfl rfl rfl rfl) (fun _=>ClE.sat _ _) (fun _ w s=>s.pc [0]) (fun _ _ _ s=>s.drop1) fun b2=>?_
 refine RD.solid rfl (.inr rfl) rfl rfl (Sd.convM (α:=UInt8) 1 ([(84:UInt8),(71:UInt8)]:List UInt8) rfl usl22 u8_5 rfl rfl (by decide) ⟨[_],_,rfl,rfl,⟨[_],_,rfl,rfl,rfl⟩⟩) (fun _=>ClE.sat _ _) (fun _ w s=>s.pc [0]) (fun h=>nomatch h) fun _=>?_
 obtain ⟨x3,hx3,H⟩:=bindE H
 refine RD.know (fun w s=>(s.row_fitsM (q:=(some b2,2)) (m:=2) (k:=1) rfl)) fun hf4=>?_
 refine RD.solid rfl (.inr rfl) rfl rfl (Sd.callM 1 ent274 rfl rfl (fun w s=>wire_Put_walk ([(84:UInt8),(71:UInt8)]:List UInt8) a0_g.w hf4.1  hx3 w s)) (fun _=>ClE.sat _ _) (fun _ w s=>s.pc [0]) (fun h=>nomatch h) fun q5=>?_
 obtain ⟨x6,hx6,H⟩:=bindE H
 refine RD.solid rfl (.inr rfl) rfl rfl (Sd.callM 1 ent274 rfl rfl (fun w s=>wire_Put_walk x3 a0_g.h rfl  hx6 w s)) (fun _=>ClE.sat _ _) (fun _ w s=>s.pc [0]) (fun h=>nomatch h) fun q7=>?_
 obtain ⟨g9,H⟩:=gdE H
 refine RD.solid rfl (.inr rfl) rfl rfl (Sd.appRM (α:=UInt8) 1 rfl sl22.h zr5 rfl rfl rfl (Rd.base h0) g9 (by decide)) (fun _=>ClE.sat _ _) (fun _ w s=>s.pc [0]) (fun h=>nomatch h) fun q8=>?_
 refine RD.p (fun w s=>s.pc [0]) rfl (Pu.assign rfl) rfl rfl (RD.nil (k2 _ _ (kq [3] ?_)))
 refine T.seq fun _ k3=>T.region (rM rfl ?_)
 obtain ⟨x10,hx10,H⟩:=bindE H
 refine rq (Qt.call (vs:=[]) ent231 rfl fun w s=>fnv_Start_walk  w  hx10) (rM rfl ?_)
 obtain ⟨x11,hx11,H⟩:=bindE H
 refine rq (Qt.call (vs:=[_,_]) ent230 rfl fun w s=>fnv_Sum_walk x10 (x6 ++ a0_g.tiles) w ((Rd.ofRowM 1 rfl) w s) hx11) ?_
 obtain ⟨x12,hx12,H⟩:=bindE H
 refine RS.solid (Sd.callN (vs:=[_]) ent309 rfl (fun w s=>fnv_Bytes_walk x11 w  hx12)) rfl rfl fun q13=>?_
 obtain ⟨g15,H⟩:=gdE H
 refine RS.solid (Sd.appRM (α:=UInt8) 1 rfl sl22.h zr5 rfl rfl rfl (Rd.ofRowN 2 rfl) g15 (by decide)) rfl rfl fun q14=>rA rfl (RS.nil (k3 _ _ (kq [2] ?_)))
 obtain rfl:=sj H
 refine T.rt (Cont.ret1 rfl rfl fun w' s=>?_)
 exact ⟨q14,rfl,s.pc [1]⟩
theorem image_lay_1_walk {w0:World} {F:Ch} (a0_l:List Int) (cv0:List UInt8) {gc:Nat} {q0:Option Nat × Nat} {v0:Value} (h0:Rd (Sat w0 [F]) a0_l [v0]) {r:List UInt8} (H:image_lay_1 a0_l cv0 = some r) (w:World) (s:Sat w0 [star (blk gc [rowV q0 cv0.length] 22) (rowM 5 (rowV q0 cv0.length) cv0),F] w):Calls Tryz.prog 273 #[v0,.pointer (some ⟨gc,0,none⟩)] w fun e w'=>∃ q:Option Nat × Nat,e = .returned (.tuple #[])∧Sat w0 [star (blk gc [rowV q r.length] 22) (rowM 5 (rowV q r.length) r),F] w':=by
 have hm0:=R_max (h0 w (s.pc [1]))
 obtain ⟨p0,c0,rfl⟩:=R_form (h0 w (s.pc [1]))
 unfold image_lay_1 at H
 refine te Tryz.func273 (s.unstarAt 0 rfl) ?_
 refine au 4 ?_
 refine T.joinE (σ:=List UInt8) (γ:=(Option Nat × Nat)) H (fun s=>s) [] trivial (fun v2 q3=>[]) (fun v2 q3=>Sat w0 [blk gc [rowV q3 v2.length] 22,F,rowM 5 (rowV q3 v2.length) v2]) ?_ ?_
 ·rintro v2 q3 H
  try dsimp only [Ex.then] at H
  refine Cont.kq [] ?_
  obtain rfl:=sj H
  refine id (Cont.end0 rfl fun w' s=>?_)
  exact ⟨q3,rfl,(Sat.starAt 0 2 s rfl rfl (by decide)).pick [0,1] (by decide) rfl⟩
 intro z1 hz1 HX1 hJ1
 refine T.block ?_
 refine T.loopA (γ:=(Option Nat × Nat)) hz1 [(1,_),(5,_),(6,_)] (fun (v4,l5) q6=>[(7,.int .i64 v4)]) (fun (v4,l5) q6=>Sat w0 [blk gc [rowV q6 l5.length] 22,F,rowM 5 (rowV q6 l5.length) l5]) q0 sb sb (fun w s=>s) ?_
 rintro ⟨v4,l5⟩ q6 y7 H hd1 KL1 hL1
 try dsimp only [Ex.then] at H
 refine kq [7,1,5,6] ?_
 refine au 2 ?_
 refine T.seq fun _ k3=>?_
 refine T.cP H rfl (fun hc8 H=>?_) (fun hc8 H=>?_)
 ·refine T.skip (k3 _ _ ?_)
  refine T.seq fun _ k4=>T.block (T.seq fun _ k5=>T.region ?_)
  obtain ⟨g9,H⟩:=gdE H
  refine RS.know (p:=∃ bl ol,p0 = some ⟨bl,ol,none⟩) (fun w s=>R_ptr (h0 w (s.pc [1])) (ne_of_pos (pos_of g9))) ?_
  rintro ⟨bl10,ol11,rfl⟩
  refine rp (Pu.indexSl sl35.h rfl rfl g9) (rq (Qt.ld0 (α:=Int) (Rd.ofFrame 1 rfl h0) ty3.h rfl rfl g9 (by rintro _ _ rfl; rfl)) (rA rfl (RS.nil (k5 _ _ (kq [1,4,5,6,7] ?_)))))
  refine T.region (au 2 ?_)
  obtain ⟨x12,hx12,H⟩:=bindE H
  refine RS.solid (Sd.callM 2 ent274 rfl rfl (fun w s=>wire_Put_walk l5 (gi a0_l v4) rfl  hx12 w s)) rfl rfl fun q13=>RS.solid (Sd.stB (cs':=[_]) 0 ty22.h rfl rfl rfl rfl rfl rfl rfl rfl) rfl rfl fun _=>RS.nil (k4 _ _ (kq [1,5,6,7] ?_))
  refine T.region ?_
  obtain ⟨g14,H⟩:=gdE H
  refine rp (Pu.addS rfl rfl g14) (rM rfl (RS.nil (hL1 _ _ ((v4 + 1),x12) q13 H sb sb (fun w s=>s))))
 obtain rfl:=hd1 _ H
 refine T.xt (hJ1 _ _ l5 q6 HX1 trivial trivial (fun w s=>s))
theorem image_lay_walk (a0_w:Wld) (w:World) {v0 v1 v2:Value} (h0:R (hpOf w) a0_w.g.tiles [v0]) (h1:R (hpOf w) a0_w.bs [v1]) (h2:R (hpOf w) a0_w.us [v2]) {r:List UInt8} (H:image_lay a0_w = some r):Calls Tryz.prog 232 #[.agg #[.int .i64 a0_w.tick,.int .i64 a0_w.players,.int .i64 a0_w.nextid,.int .i64 a0_w.g.w,.int .i64 a0_w.g.h,v0,v1,v2]] w fun e w'=>∃ q1:(Option Nat × Nat),e = .returned (rowV q1 r.length)∧Sat w [rowM 5 (rowV q1 r.length) r] w':=by
 have hm0:=R_max h0
 obtain ⟨p0,c0,rfl⟩:=R_form h0
 have hm1:=R_max h1
 obtain ⟨p1,c1,rfl⟩:=R_form h1
 have hm2:=R_max h2
 obtain ⟨p2,c2,rfl⟩:=R_form h2
 unfold image_lay at H
 refine te Tryz.func232 (Sat.start w) ?_
 refine T.seq fun _ k1=>T.region (RS.solid (Sd.box (cs:=[_,_,_,_,_,_,_,_]) rfl rfl) rfl rfl fun b1=>rA rfl (RS.nil (k1 _ _ ?_)))
 refine T.seq fun _ k2=>T.region (RS.solid (Sd.litS (cs:=[_,_]) sl22.h zr5 rfl rfl rfl rfl rfl) rfl rfl fun b2=>RS.solid (Sd.convM (α:=UInt8) 1 ([(84:UInt8),(87:UInt8)]:List UInt8) rfl usl22 u8_5 rfl rfl (by decide) ⟨[_],_,rfl,rfl,⟨[_],_,rfl,rfl,rfl⟩⟩) rfl rfl fun _=>RS.solid (Sd.alloc zr22 rfl) rfl rfl fun b3=>RS.solid (Sd.stB (cs':=[_]) 2 ty22.h rfl rfl rfl rfl rfl rfl rfl rfl) rfl rfl fun _=>RS.nil (k2 _ _ (kq [1,3] ?_)))
 refine T.seq fun _ k3=>T.region (rp (Pu.makeFunc rfl) (rA rfl (RS.nil (k3 _ _ ?_))))
 refine T.seq fun _ k4=>T.region (au 7 ?_)
 refine RS.solid (Sd.litS (cs:=[_,_,_]) sl35.h zr3 rfl rfl rfl rfl rfl) rfl rfl fun b4=>?_
 refine RS.weakS (fun w s=>s.litRow (α:=Int) (n:=3) 3 ([a0_w.tick,a0_w.players,a0_w.nextid]:List Int) rfl (by decide) rfl ⟨[_],_,rfl,rfl,⟨[_],_,rfl,rfl,⟨[_],_,rfl,rfl,rfl⟩⟩⟩) ?_
 obtain ⟨x5,hx5,H⟩:=bindE H
 refine nz ?_
 refine RS.solid (Sd.pre (fun w s=>(Sat.starAt 2 1 (Sat.cellB 2 (Sat.relenM (q:=(some b2,2)) (m:=2) 1 s rfl) rfl (congrArg (fun z=>[rowV (some b2,2) z]) (s.row_fitsM (q:=(some b2,2)) (m:=2) (k:=1) rfl).1)) rfl rfl (by decide))) (Sd.callMV (ι:=Option Nat × Nat) (C':=fun q=>star (blk b3 [rowV q x5.length] 22) (rowM 5 (rowV q x5.length) x5)) (val:=fun _=>.tuple #[]) (vs:=[_]) (cs:=[.pointer (some ⟨b3,0,none⟩)]) 2 ent273 rfl rfl rfl (fun w s=>image_lay_1_walk ([a0_w.tick,a0_w.players,a0_w.nextid]:List Int) ([(84:UInt8),(87:UInt8)]:List UInt8) (v0:=rowV (some b4,3) 3) (Rd.rest 3 rfl (by decide) (Rd.ofRowN 0 rfl)) hx5 w s))) rfl rfl fun q6=>?_
 refine RS.wk (fun w s=>s.unstarAt 2 rfl) ?_
 refine RS.nil (k4 _ _ (kq [1,3,4] ?_))
 refine T.seq fun _ k5=>T.region (au 2 ?_)
 obtain ⟨x7,hx7,H⟩:=bindE H
 refine RS.solid (Sd.callN (vs:=[_]) ent276 rfl (fun w s=>mapcode_Lay_walk a0_w.g w ((Rd.base h0) w s) hx7)) rfl rfl fun q8=>?_
 obtain ⟨x9,hx9,H⟩:=bindE H
 refine RS.solid (Sd.callN (vs:=[_]) ent275 rfl (fun w s=>wire_Raw_walk x7 w ((Rd.ofRowM 5 rfl) w s) hx9)) rfl rfl fun q10=>au 5 ?_
 refine RS.nil (k5 _ _ (kq [1,3,4,5] ?_))
 refine T.seq fun _ k6=>nz ?_
 refine T.region (au 2 ?_)
 obtain ⟨g12,H⟩:=gdE H
 refine RS.solid (Sd.appRM (α:=UInt8) 4 rfl sl22.h zr5 rfl rfl rfl (Rd.ofRowM 6 rfl) g12 (by decide)) rfl rfl fun q11=>RS.solid (Sd.stB (cs':=[_]) 2 ty22.h rfl rfl rfl rfl rfl rfl rfl rfl) rfl rfl fun _=>RS.nil (k6 _ _ (kq [1,3,4] ?_))
 refine T.seq fun _ k7=>nz ?_
 refine T.region (au 4 ?_)
 refine RS.solid (Sd.litS (cs:=[_]) sl35.h zr3 rfl rfl rfl rfl rfl) rfl rfl fun b13=>?_
 refine RS.weakS (fun w s=>s.litRow (α:=Int) (n:=1) 7 ([(a0_w.bs.length:Int)]:List Int) rfl (by decide) rfl ⟨[_],_,rfl,rfl,rfl⟩) ?_
 obtain ⟨x14,hx14,H⟩:=bindE H
 refine nz ?_
 refine RS.solid (Sd.pre (fun w s=>(Sat.starAt 2 4 s rfl rfl (by decide))) (Sd.callMV (ι:=Option Nat × Nat) (C':=fun q=>star (blk b3 [rowV q x14.length] 22) (rowM 5 (rowV q x14.length) x14)) (val:=fun _=>.tuple #[]) (vs:=[_]) (cs:=[.pointer (some ⟨b3,0,none⟩)]) 2 ent273 rfl rfl rfl (fun w s=>image_lay_1_walk ([(a0_w.bs.length:Int)]:List Int) (x5 ++ x9.1) (v0:=rowV (some b13,1) 1) (Rd.rest 7 rfl (by decide) (Rd.ofRowN 0 rfl)) hx14 w s))) rfl rfl fun q15=>?_
 refine RS.wk (fun w s=>s.unstarAt 2 rfl) ?_
 refine RS.nil (k7 _ _ (kq [1,3,4] ?_))
 refine T.seq fun _ k8=>au 5 ?_
 refine T.joinE (σ:=Unit) (γ:=Unit) H (fun s=>s) [(1,_),(3,_),(4,_)] sb (fun _ _=>[]) (fun _ _=>Sat w [blk b1 [.int .i64 a0_w.tick,.int .i64 a0_w.players,.int .i64 a0_w.nextid,.int .i64 a0_w.g.w,.int .i64 a0_w.g.h,.slice p0 a0_w.g.tiles.length c0,.slice p1 a0_w.bs.length c1,.slice p2 a0_w.us.length c2] 52,dead,blk b3 [rowV q15 x14.length] 22,row nilH 3 (rowV (some b4,3) 3) ([a0_w.tick,a0_w.players,a0_w.nextid]:List Int),dead,rowM 5 (rowV q8 x7.length) x7,rowM 5 (rowV q10 x9.1.length) x9.1,row nilH 3 (rowV (some b13,1) 1) ([(a0_w.bs.length:Int)]:List Int),rowM 5 (rowV q15 x14.length) x14]) ?_ ?_
 ·rintro ⟨⟩ ⟨⟩ H
  try dsimp only [Ex.then] at H
  refine Cont.kq [1,3,4] ?_
  refine id (k8 _ _ ?_)
  refine T.seq fun _ k10=>nz ?_
  refine T.region (au 4 ?_)
  refine RS.solid (Sd.litS (cs:=[_]) sl35.h zr3 rfl rfl rfl rfl rfl) rfl rfl fun b17=>?_
  refine RS.weakS (fun w s=>s.litRow (α:=Int) (n:=1) 9 ([(a0_w.us.length:Int)]:List Int) rfl (by decide) rfl ⟨[_],_,rfl,rfl,rfl⟩) ?_
  obtain ⟨x18,hx18,H⟩:=bindE H
  refine nz ?_
  refine RS.solid (Sd.pre (fun w s=>(Sat.starAt 2 8 s rfl rfl (by decide))) (Sd.callMV (ι:=Option Nat × Nat) (C':=fun q=>star (blk b3 [rowV q x18.length] 22) (rowM 5 (rowV q x18.length) x18)) (val:=fun _=>.tuple #[]) (vs:=[_]) (cs:=[.pointer (some ⟨b3,0,none⟩)]) 2 ent273 rfl rfl rfl (fun w s=>image_lay_1_walk ([(a0_w.us.length:Int)]:List Int) x14 (v0:=rowV (some b17,1) 1) (Rd.rest 9 rfl (by decide) (Rd.ofRowN 0 rfl)) hx18 w s))) rfl rfl fun q19=>?_
  refine RS.wk (fun w s=>s.unstarAt 2 rfl) ?_
  refine RS.nil (k10 _ _ (kq [1,3,4] ?_))
  refine T.seq fun _ k11=>au 5 ?_
  refine T.joinE (σ:=List UInt8) (γ:=(Option Nat × Nat)) H (fun s=>s) [(3,_)] sb (fun v21 q22=>[]) (fun v21 q22=>Sat w [blk b1 [.int .i64 a0_w.tick,.int .i64 a0_w.players,.int .i64 a0_w.nextid,.int .i64 a0_w.g.w,.int .i64 a0_w.g.h,.slice p0 a0_w.g.tiles.length c0,.slice p1 a0_w.bs.length c1,.slice p2 a0_w.us.length c2] 52,dead,blk b3 [rowV q22 v21.length] 22,row nilH 3 (rowV (some b4,3) 3) ([a0_w.tick,a0_w.players,a0_w.nextid]:List Int),dead,rowM 5 (rowV q8 x7.length) x7,rowM 5 (rowV q10 x9.1.length) x9.1,row nilH 3 (rowV (some b13,1) 1) ([(a0_w.bs.length:Int)]:List Int),dead,row nilH 3 (rowV (some b17,1) 1) ([(a0_w.us.length:Int)]:List Int),rowM 5 (rowV q22 v21.length) v21]) ?_ ?_
  ·rintro v21 q22 H
   try dsimp only [Ex.then] at H
   refine Cont.kq [3] ?_
   refine id (k11 _ _ ?_)
   refine au 3 ?_
   obtain rfl:=sj H
   refine nz ?_
   refine T.rt (Cont.ret1 rfl rfl fun w' s=>?_)
   exact ⟨q22,rfl,s.pc [10]⟩
  intro z20 hz20 HX20 hJ20
  refine T.block ?_
  refine T.loopA (γ:=(Option Nat × Nat)) hz20 [(3,_),(4,_),(73,_),(74,_)] (fun (v23,l24) q25=>[(75,.int .i64 v23)]) (fun (v23,l24) q25=>Sat w [blk b1 [.int .i64 a0_w.tick,.int .i64 a0_w.players,.int .i64 a0_w.nextid,.int .i64 a0_w.g.w,.int .i64 a0_w.g.h,.slice p0 a0_w.g.tiles.length c0,.slice p1 a0_w.bs.length c1,.slice p2 a0_w.us.length c2] 52,dead,blk b3 [rowV q25 l24.length] 22,row nilH 3 (rowV (some b4,3) 3) ([a0_w.tick,a0_w.players,a0_w.nextid]:List Int),dead,rowM 5 (rowV q8 x7.length) x7,rowM 5 (rowV q10 x9.1.length) x9.1,row nilH 3 (rowV (some b13,1) 1) ([(a0_w.bs.length:Int)]:List Int),dead,row nilH 3 (rowV (some b17,1) 1) ([(a0_w.us.length:Int)]:List Int),rowM 5 (rowV q25 l24.length) l24]) q19 sb sb (fun w s=>s) ?_
  rintro ⟨v23,l24⟩ q25 y26 H hd20 KL20 hL20
  try dsimp only [Ex.then] at H
  refine kq [75,3,4,73,74] ?_
  refine au 2 ?_
  refine T.seq fun _ k15=>?_
  refine T.cP H rfl (fun hc27 H=>?_) (fun hc27 H=>?_)
  ·refine T.skip (k15 _ _ ?_)
   refine T.seq fun _ k16=>T.block (T.seq fun _ k17=>nz ?_)
   refine T.region ?_
   obtain ⟨g28,H⟩:=gdE H
   obtain ⟨bl29,ol30,rfl⟩:=R_ptr h2 (ne_of_pos (pos_of g28))
   refine rp (Pu.indexSl sl50.h rfl rfl g28) (rq (Qt.ldW (α:=Unt) (cs:=[_,_,_,_,_,_,_,_,_,_]) (Rd.base h2) ty54.h rfl rfl g28 rfl (by rintro _ _ rfl; rfl)) (RS.solid (Sd.alloc zr54 rfl) rfl rfl fun b31=>RS.solid (Sd.stB (cs':=[_,_,_,_,_,_,_,_,_,_]) 11 ty54.h rfl rfl rfl rfl rfl rfl rfl rfl) rfl rfl fun _=>RS.nil (k17 _ _ (kq [3,4,10,73,74,75] ?_))))
   refine T.seq fun _ k18=>nz ?_
   refine T.region (au 7 ?_)
   refine RS.solid (Sd.litS (cs:=[_,_,_]) sl35.h zr3 rfl rfl rfl rfl rfl) rfl rfl fun b32=>?_
   refine RS.weakS (fun w s=>s.litRow (α:=Int) (n:=3) 12 ([(gi a0_w.us v23).id,(gi a0_w.us v23).owner,(gi a0_w.us v23).kind]:List Int) rfl (by decide) rfl ⟨[_],_,rfl,rfl,⟨[_],_,rfl,rfl,⟨[_],_,rfl,rfl,rfl⟩⟩⟩) ?_
   obtain ⟨x33,hx33,H⟩:=bindE H
   refine nz ?_
   refine RS.solid (Sd.pre (fun w s=>(Sat.starAt 2 10 s rfl rfl (by decide))) (Sd.callMV (ι:=Option Nat × Nat) (C':=fun q=>star (blk b3 [rowV q x33.length] 22) (rowM 5 (rowV q x33.length) x33)) (val:=fun _=>.tuple #[]) (vs:=[_]) (cs:=[.pointer (some ⟨b3,0,none⟩)]) 2 ent273 rfl rfl rfl (fun w s=>image_lay_1_walk ([(gi a0_w.us v23).id,(gi a0_w.us v23).owner,(gi a0_w.us v23).kind]:List Int) l24 (v0:=rowV (some b32,3) 3) (Rd.rest 12 rfl (by decide) (Rd.ofRowN 0 rfl)) hx33 w s))) rfl rfl fun q34=>?_
   refine RS.wk (fun w s=>s.unstarAt 2 rfl) ?_
   refine RS.nil (k18 _ _ (kq [3,4,10,73,74,75] ?_))
   refine T.seq fun _ k19=>T.seq fun _ k20=>nz ?_
   refine T.region (au 6 ?_)
   refine RS.solid (Sd.litS (cs:=[_,_]) sl356.h zr2 rfl rfl rfl rfl rfl) rfl rfl fun b35=>?_
   refine RS.weakS (fun w s=>s.litRow (α:=Int) (n:=2) 14 ([((gi a0_w.us v23).pos).x,((gi a0_w.us v23).pos).y]:List Int) rfl (by decide) rfl ⟨[_],_,rfl,rfl,⟨[_],_,rfl,rfl,rfl⟩⟩) ?_
   refine au 2 ?_
   refine RS.nil (k20 _ _ (kq [3,4,10,73,74,75,94,95,96] ?_))
   refine T.joinE (σ:=List UInt8) (γ:=(Option Nat × Nat)) H (fun s=>s) [(3,_),(4,_),(10,_),(73,_),(74,_),(75,_)] sb (fun v37 q38=>[]) (fun v37 q38=>Sat w [blk b1 [.int .i64 a0_w.tick,.int .i64 a0_w.players,.int .i64 a0_w.nextid,.int .i64 a0_w.g.w,.int .i64 a0_w.g.h,.slice p0 a0_w.g.tiles.length c0,.slice p1 a0_w.bs.length c1,.slice (some ⟨bl29,ol30,none⟩) a0_w.us.length c2] 52,dead,blk b3 [rowV q38 v37.length] 22,row nilH 3 (rowV (some b4,3) 3) ([a0_w.tick,a0_w.players,a0_w.nextid]:List Int),dead,rowM 5 (rowV q8 x7.length) x7,rowM 5 (rowV q10 x9.1.length) x9.1,row nilH 3 (rowV (some b13,1) 1) ([(a0_w.bs.length:Int)]:List Int),dead,row nilH 3 (rowV (some b17,1) 1) ([(a0_w.us.length:Int)]:List Int),dead,blk b31 [.int .i64 ((gi a0_w.us v23).id),.int .i64 ((gi a0_w.us v23).owner),.int .i64 ((gi a0_w.us v23).kind),.int .i64 (((gi a0_w.us v23).pos).x),.int .i64 (((gi a0_w.us v23).pos).y),.int .i64 ((gi a0_w.us v23).goal),.int .i64 ((gi a0_w.us v23).next),.int .i64 ((gi a0_w.us v23).stuck),.int .i64 ((gi a0_w.us v23).inn),.int .i64 ((gi a0_w.us v23).state)] 54,row nilH 3 (rowV (some b32,3) 3) ([(gi a0_w.us v23).id,(gi a0_w.us v23).owner,(gi a0_w.us v23).kind]:List Int),rowM 5 (rowV q38 v37.length) v37,row nilH 2 (rowV (some b35,2) 2) ([((gi a0_w.us v23).pos).x,((gi a0_w.us v23).pos).y]:List Int)]) ?_ ?_
   ·rintro v37 q38 H
    try dsimp only [Ex.then] at H
    refine Cont.kq [3,4,10,73,74,75] ?_
    refine id (k19 _ _ ?_)
    refine nz ?_
    refine T.region (au 3 ?_)
    obtain ⟨g39,H⟩:=gdE H
    refine rp (Pu.addS rfl rfl g39) (au 2 ?_)
    obtain ⟨g40,H⟩:=gdE H
    refine rp (Pu.addS rfl rfl g40) (au 6 ?_)
    refine RS.solid (Sd.litS (cs:=[_,_,_,_,_]) sl35.h zr3 rfl rfl rfl rfl rfl) rfl rfl fun b41=>?_
    refine RS.weakS (fun w s=>s.litRow (α:=Int) (n:=5) 15 ([(((gi a0_w.us v23).goal) + 1),(((gi a0_w.us v23).next) + 1),(gi a0_w.us v23).stuck,(gi a0_w.us v23).inn,(gi a0_w.us v23).state]:List Int) rfl (by decide) rfl ⟨[_],_,rfl,rfl,⟨[_],_,rfl,rfl,⟨[_],_,rfl,rfl,⟨[_],_,rfl,rfl,⟨[_],_,rfl,rfl,rfl⟩⟩⟩⟩⟩) ?_
    obtain ⟨x42,hx42,H⟩:=bindE H
    refine nz ?_
    refine RS.solid (Sd.pre (fun w s=>(Sat.starAt 2 13 s rfl rfl (by decide))) (Sd.callMV (ι:=Option Nat × Nat) (C':=fun q=>star (blk b3 [rowV q x42.length] 22) (rowM 5 (rowV q x42.length) x42)) (val:=fun _=>.tuple #[]) (vs:=[_]) (cs:=[.pointer (some ⟨b3,0,none⟩)]) 2 ent273 rfl rfl rfl (fun w s=>image_lay_1_walk ([(((gi a0_w.us v23).goal) + 1),(((gi a0_w.us v23).next) + 1),(gi a0_w.us v23).stuck,(gi a0_w.us v23).inn,(gi a0_w.us v23).state]:List Int) v37 (v0:=rowV (some b41,5) 5) (Rd.rest 15 rfl (by decide) (Rd.ofRowN 0 rfl)) hx42 w s))) rfl rfl fun q43=>?_
    refine RS.wk (fun w s=>s.unstarAt 2 rfl) ?_
    refine RS.nil (k16 _ _ (kq [3,4,73,74,75] ?_))
    refine nz ?_
    refine T.region ?_
    obtain ⟨g44,H⟩:=gdE H
    refine rp (Pu.addS rfl rfl g44) (rM rfl (RS.nil (hL20 _ _ ((v23 + 1),x42) q43 H sb sb (fun w s=>s.pc [0,1,2,3,4,5,6,7,8,9,16]))))
   intro z36 hz36 HX36 hJ36
   refine T.block ?_
   refine T.loopA (γ:=(Option Nat × Nat)) hz36 [(3,_),(4,_),(10,_),(73,_),(74,_),(75,_),(94,_),(95,_)] (fun (v45,l46) q47=>[(96,.int .i64 v45)]) (fun (v45,l46) q47=>Sat w [blk b1 [.int .i64 a0_w.tick,.int .i64 a0_w.players,.int .i64 a0_w.nextid,.int .i64 a0_w.g.w,.int .i64 a0_w.g.h,.slice p0 a0_w.g.tiles.length c0,.slice p1 a0_w.bs.length c1,.slice (some ⟨bl29,ol30,none⟩) a0_w.us.length c2] 52,dead,blk b3 [rowV q47 l46.length] 22,row nilH 3 (rowV (some b4,3) 3) ([a0_w.tick,a0_w.players,a0_w.nextid]:List Int),dead,rowM 5 (rowV q8 x7.length) x7,rowM 5 (rowV q10 x9.1.length) x9.1,row nilH 3 (rowV (some b13,1) 1) ([(a0_w.bs.length:Int)]:List Int),dead,row nilH 3 (rowV (some b17,1) 1) ([(a0_w.us.length:Int)]:List Int),dead,blk b31 [.int .i64 ((gi a0_w.us v23).id),.int .i64 ((gi a0_w.us v23).owner),.int .i64 ((gi a0_w.us v23).kind),.int .i64 (((gi a0_w.us v23).pos).x),.int .i64 (((gi a0_w.us v23).pos).y),.int .i64 ((gi a0_w.us v23).goal),.int .i64 ((gi a0_w.us v23).next),.int .i64 ((gi a0_w.us v23).stuck),.int .i64 ((gi a0_w.us v23).inn),.int .i64 ((gi a0_w.us v23).state)] 54,row nilH 3 (rowV (some b32,3) 3) ([(gi a0_w.us v23).id,(gi a0_w.us v23).owner,(gi a0_w.us v23).kind]:List Int),rowM 5 (rowV q47 l46.length) l46,row nilH 2 (rowV (some b35,2) 2) ([((gi a0_w.us v23).pos).x,((gi a0_w.us v23).pos).y]:List Int)]) q34 sb sb (fun w s=>s) ?_
   rintro ⟨v45,l46⟩ q47 y48 H hd36 KL36 hL36
   try dsimp only [Ex.then] at H
   refine kq [96,3,4,10,73,74,75,94,95] ?_
   refine au 2 ?_
   refine T.seq fun _ k22=>?_
   refine T.cP H rfl (fun hc49 H=>?_) (fun hc49 H=>?_)
   ·refine T.skip (k22 _ _ ?_)
    refine T.seq fun _ k23=>T.block (T.seq fun _ k24=>nz ?_)
    refine T.region ?_
    obtain ⟨g50,H⟩:=gdE H
    refine RS.know (fun w s=>(s.row_fits (q:=(some b35,2)) (m:=2) (k:=14) rfl)) fun hf51=>?_
    refine rp (Pu.indexSl sl356.h rfl rfl g50) (rq (Qt.ld0 (α:=Int) (Rd.ofRowN 14 rfl) ty2.h rfl rfl (idx_of hf51.1 g50) (by rintro _ _ rfl; rfl)) (rA rfl (RS.nil (k24 _ _ (kq [3,4,10,12,73,74,75,94,95,96] ?_)))))
    refine T.seq fun _ k25=>nz ?_
    refine T.region (rM rfl ?_)
    obtain ⟨x52,hx52,H⟩:=bindE H
    refine RS.solid (Sd.callN (vs:=[_]) ent277 rfl (fun w s=>wire_Int_walk (gi ([((gi a0_w.us v23).pos).x,((gi a0_w.us v23).pos).y]:List Int) v45) w  hx52)) rfl rfl fun q53=>au 5 ?_
    refine RS.nil (k25 _ _ (kq [3,4,10,13,73,74,75,94,95,96] ?_))
    refine nz ?_
    refine T.region (au 2 ?_)
    obtain ⟨g55,H⟩:=gdE H
    refine RS.solid (Sd.appRM (α:=UInt8) 13 rfl sl22.h zr5 rfl rfl rfl (Rd.ofRowM 15 rfl) g55 (by decide)) rfl rfl fun q54=>RS.solid (Sd.stB (cs':=[_]) 2 ty22.h rfl rfl rfl rfl rfl rfl rfl rfl) rfl rfl fun _=>RS.nil (k23 _ _ (kq [3,4,10,73,74,75,94,95,96] ?_))
    refine nz ?_
    refine T.region ?_
    obtain ⟨g56,H⟩:=gdE H
    refine rp (Pu.addS rfl rfl g56) (rM rfl (RS.nil (hL36 _ _ ((v45 + 1),(l46 ++ x52.1)) q54 H sb sb (fun w s=>s.pc [0,1,2,3,4,5,6,7,8,9,10,11,12,13,14]))))
   obtain rfl:=hd36 _ H
   refine T.xt (hJ36 _ _ l46 q47 HX36 sb trivial (fun w s=>s))
  obtain rfl:=hd20 _ H
  refine T.xt (hJ20 _ _ l24 q25 HX20 sb trivial (fun w s=>s))
 intro z16 hz16 HX16 hJ16
 refine T.block ?_
 refine T.loopA (γ:=Unit) hz16 [(1,_),(3,_),(4,_),(44,_),(45,_)] (fun v57 _=>[(46,.int .i64 v57)]) (fun v57 _=>Sat w [blk b1 [.int .i64 a0_w.tick,.int .i64 a0_w.players,.int .i64 a0_w.nextid,.int .i64 a0_w.g.w,.int .i64 a0_w.g.h,.slice p0 a0_w.g.tiles.length c0,.slice p1 a0_w.bs.length c1,.slice p2 a0_w.us.length c2] 52,dead,blk b3 [rowV q15 x14.length] 22,row nilH 3 (rowV (some b4,3) 3) ([a0_w.tick,a0_w.players,a0_w.nextid]:List Int),dead,rowM 5 (rowV q8 x7.length) x7,rowM 5 (rowV q10 x9.1.length) x9.1,row nilH 3 (rowV (some b13,1) 1) ([(a0_w.bs.length:Int)]:List Int),rowM 5 (rowV q15 x14.length) x14]) () sb sb (fun w s=>s) ?_
 rintro v57 ⟨⟩ y58 H hd16 KL16 hL16
 try dsimp only [Ex.then] at H
 refine kq [46,1,3,4,44,45] ?_
 refine au 2 ?_
 refine T.seq fun _ k27=>?_
 refine T.cP H rfl (fun _ H=>nomatch H) (fun hc59 H=>?_)
 obtain rfl:=hd16 _ H
 refine T.xt (hJ16 _ _ () () HX16 sb trivial (fun w s=>s))
theorem image_Sum_walk (a0_w:Wld) (w:World) {v0 v1 v2:Value} (h0:R (hpOf w) a0_w.g.tiles [v0]) (h1:R (hpOf w) a0_w.bs [v1]) (h2:R (hpOf w) a0_w.us [v2]) {r:UInt64} (H:image_Sum a0_w = some r):Calls Tryz.prog 161 #[.agg #[.int .i64 a0_w.tick,.int .i64 a0_w.players,.int .i64 a0_w.nextid,.int .i64 a0_w.g.w,.int .i64 a0_w.g.h,v0,v1,v2]] w fun e w'=>e = .returned (.int .u64 (r.toNat:Int))∧Ext w w':=by
 have hm0:=R_max h0
 obtain ⟨p0,c0,rfl⟩:=R_form h0
 have hm1:=R_max h1
 obtain ⟨p1,c1,rfl⟩:=R_form h1
 have hm2:=R_max h2
 obtain ⟨p2,c2,rfl⟩:=R_form h2
 unfold image_Sum at H
 refine te Tryz.func161 (Sat.start w) ?_
 refine T.seq fun _ k1=>T.region (RS.solid (Sd.box (cs:=[_,_,_,_,_,_,_,_]) rfl rfl) rfl rfl fun b1=>rA rfl (RS.nil (k1 _ _ ?_)))
 refine T.seq fun _ k2=>dr mixed [1,1,3,1,0] ?_
 obtain ⟨x2,hx2,H⟩:=bindE H
 refine dq rfl (Qt.call (vs:=[]) ent231 rfl fun w s=>fnv_Start_walk  w  hx2) (dq rfl (Qt.ldBA (us:=[_,_,_,_,_,_,_,_]) 0 ty52.h rfl rfl rfl rfl) ?_)
 obtain ⟨x3,hx3,H⟩:=bindE H
 refine RD.solid rfl (.inl rfl) rfl rfl (Sd.callN (vs:=[_]) ent232 rfl (fun w s=>image_lay_walk a0_w w ((Rd.base h0) w s) ((Rd.base h1) w s) ((Rd.base h2) w s) hx3)) (fun _=>ClE.sat _ _) (fun _ _ _=>trivial) (fun _ _ _ s=>s.drop1) fun q4=>?_
 obtain ⟨x5,hx5,H⟩:=bindE H
 refine dq rfl (Qt.call (vs:=[_,_]) ent230 rfl fun w s=>fnv_Sum_walk x2 x3 w ((Rd.ofRowM 1 rfl) w s) hx5) (dp rfl (Pu.assign rfl) (RD.nil (k2 _ _ (kq [2] ?_))))
 obtain rfl:=sj H
 refine T.rt (Cont.ret1 rfl rfl fun w' s=>?_)
 exact ⟨rfl,s.ext⟩
end Go.Proofs.YtmngdgclldkcfaaGreat
