/-
  Walks of numbers, places, ways, discs.
-/
import Derived.Test.YtmngdgclldkcfaaGreatRows
import Derived.Test.YtmngdgclldkcfaaGreatJ6
import Derived.Test.YtmngdgclldkcfaaGreatJ7
import Derived.Test.YtmngdgclldkcfaaGreatJ10
set_option linter.unusedVariables false
set_option linter.unusedSimpArgs false
set_option maxRecDepth 20000
set_option maxHeartbeats 4000000
namespace Go.Proofs.YtmngdgclldkcfaaGreat
open Go.Vg
open Enc (R)
theorem kind_May_walk (a0_k:Int) (w:World) {r:Bool} (H:kind_May a0_k = some r):Calls Tryz.prog 114 #[.int .i64 a0_k] w fun e w'=>e = .returned (.bool r)∧Ext w w':=by
 unfold kind_May at H
 refine te Tryz.func114 (Sat.start w) ?_
 refine au 2 ?_
 refine T.seq fun _ k2=>T.region (au 3 ?_)
 refine RS.joinV 3 8 (.bool (decide ((0 ≤ a0_k)∧(a0_k < 4)))) [(2,_)] sb ?_ ?_
 ·refine rA rfl (RS.nil (k2 _ _ ?_))
  obtain rfl:=sj H
  refine T.rt (Cont.ret1 rfl rfl fun w' s=>?_)
  exact ⟨rfl,s.ext⟩
 intro hJ2
 refine RS.splitP 5 rfl (fun hc1=>?_) (fun hc1=>?_)
 ·refine au 3 ?_
  exact hJ2 _ _ ⟨dAndT hc1,rfl,trivial⟩ (fun w s=>s)
 refine au 3 ?_
 exact hJ2 _ _ ⟨dAndF hc1,rfl,trivial⟩ (fun w s=>s)
theorem kind_What_walk (a0_k:Int) (w:World) {r:Knd} (H:kind_What a0_k = some r):Calls Tryz.prog 118 #[.int .i64 a0_k] w fun e w'=>e = .returned (.agg #[.int .i64 r.radius,.int .i64 r.speed,.int .i64 r.cls,.int .i64 r.size,.int .i64 r.room])∧Ext w w':=by
 unfold kind_What at H
 refine te Tryz.func118 (Sat.start w) ?_
 refine T.seq fun _ k1=>T.region (RS.solid (Sd.alloc zr73 rfl) rfl rfl fun b1=>RS.nil (k1 _ _ ?_))
 refine T.seq fun _ k2=>au 2 ?_
 refine T.block (au 3 ?_)
 refine T.cP H rfl (fun hc2 H=>?_) (fun hc2 H=>?_)
 ·refine kq [2] ?_
  refine T.seq fun _ k5=>T.region (rp (Pu.build (cells:=[_,_,_,_,_]) st73 rfl rfl) (RS.solid (Sd.stB (cs':=[_,_,_,_,_]) 0 ty73.h rfl rfl rfl rfl rfl rfl rfl rfl) rfl rfl fun _=>RS.nil (k5 _ _ ?_)))
  obtain rfl:=sj H
  refine T.rt (Cont.retC 0 rfl ty73.h rfl rfl rfl fun w' s=>?_)
  exact ⟨rfl,s.ext⟩
 refine kq [2,3] ?_
 refine T.seq fun _ k6=>?_
 exact nomatch H
theorem fixed_Norm_walk (a0_a:Int) (w:World) {r:Int} (H:fixed_Norm a0_a = some r):Calls Tryz.prog 283 #[.int .i64 a0_a] w fun e w'=>e = .returned (.int .i64 r)∧Ext w w':=by
 unfold fixed_Norm at H
 refine te Tryz.func283 (Sat.start w) ?_
 refine au 2 ?_
 refine T.seq fun _ k2=>T.region (rM rfl (rp (Pu.maxI rfl rfl) (rA rfl (RS.nil (k2 _ _ (kq [2] ?_))))))
 obtain rfl:=sj H
 refine T.rt (Cont.ret1 rfl rfl fun w' s=>?_)
 exact ⟨rfl,s.ext⟩
theorem fixed_Abs_walk (a0_a:Int) (w:World) {r:Int × Bool} (H:fixed_Abs a0_a = some r):Calls Tryz.prog 288 #[.int .i64 a0_a] w fun e w'=>e = .returned (.tuple #[.int .u64 r.1,.bool r.2])∧Ext w w':=by
 unfold fixed_Abs at H
 refine te Tryz.func288 (Sat.start w) ?_
 refine au 3 ?_
 refine T.seq fun _ k2=>T.seq fun _ k3=>T.region (rM rfl ?_)
 obtain ⟨x1,hx1,H⟩:=bindE H
 refine rq (Qt.call (vs:=[_]) ent283 rfl fun w s=>fixed_Norm_walk a0_a w  hx1) (rA rfl (RS.nil (k3 _ _ (kq [0] ?_))))
 refine au 3 ?_
 refine T.cP H rfl (fun _ H=>nomatch H) (fun hc2 H=>?_)
 refine T.skip (k2 _ _ ?_)
 refine T.seq fun _ k6=>T.region (rM rfl (rp (Pu.convUW us2 ul112 rfl) (au 2 ?_)))
 refine RS.nil (k6 _ _ (kq [2,3] ?_))
 obtain rfl:=sj H
 refine T.rt (Cont.ret2 rfl rfl rfl fun w' s=>?_)
 exact ⟨rfl,s.ext⟩
theorem fixed_Neg_walk (a0_a:Int) (w:World) {r:Int} (H:fixed_Neg a0_a = some r):Calls Tryz.prog 285 #[.int .i64 a0_a] w fun e w'=>e = .returned (.int .i64 r)∧Ext w w':=by
 unfold fixed_Neg at H
 refine te Tryz.func285 (Sat.start w) ?_
 refine au 2 ?_
 refine T.seq fun _ k2=>T.region (rM rfl ?_)
 obtain ⟨x1,hx1,H⟩:=bindE H
 refine rq (Qt.call (vs:=[_]) ent283 rfl fun w s=>fixed_Norm_walk a0_a w  hx1) ?_
 obtain ⟨g2,H⟩:=gdE H
 refine rp (Pu.negS rfl g2) (rA rfl (RS.nil (k2 _ _ (kq [2] ?_))))
 obtain rfl:=sj H
 refine T.rt (Cont.ret1 rfl rfl fun w' s=>?_)
 exact ⟨rfl,s.ext⟩
theorem fixed_Add_walk (a0_a:Int) (a1_b:Int) (w:World) {r:Int} (H:fixed_Add a0_a a1_b = some r):Calls Tryz.prog 248 #[.int .i64 a0_a,.int .i64 a1_b] w fun e w'=>e = .returned (.int .i64 r)∧Ext w w':=by
 unfold fixed_Add at H
 refine te Tryz.func248 (Sat.start w) ?_
 refine au 2 ?_
 refine T.seq fun _ k2=>T.region (rM rfl ?_)
 obtain ⟨x1,hx1,H⟩:=bindE H
 refine rq (Qt.call (vs:=[_]) ent283 rfl fun w s=>fixed_Norm_walk a0_a w  hx1) (rM rfl ?_)
 obtain ⟨x2,hx2,H⟩:=bindE H
 refine rq (Qt.call (vs:=[_]) ent283 rfl fun w s=>fixed_Norm_walk a1_b w  hx2) (au 2 ?_)
 refine RS.nil (k2 _ _ (kq [0,1] ?_))
 refine T.seq fun _ k3=>T.block (T.seq fun _ k4=>T.region (au 3 ?_))
 obtain ⟨g5,H⟩:=gdE H
 refine RS.joinV 5 17 (.bool (decide ((0 < x2)∧((9223372036854775807 - x2) < x1)))) [(0,_),(1,_)] sb ?_ ?_
 ·refine rA rfl (RS.nil (k4 _ _ ?_))
  refine T.cP H rfl (fun _ H=>nomatch H) (fun hc6 H=>?_)
  refine T.seq fun _ k6=>T.region (au 3 ?_)
  obtain ⟨g9,H⟩:=gdE H
  refine RS.joinV 5 26 (.bool (decide ((x2 < 0)∧(x1 < ((-9223372036854775807) - x2))))) [(0,_),(1,_)] sb ?_ ?_
  ·refine rA rfl (RS.nil (k6 _ _ ?_))
   refine T.cP H rfl (fun _ H=>nomatch H) (fun hc10 H=>?_)
   refine T.skip (k3 _ _ ?_)
   refine T.seq fun _ k8=>T.region (au 2 ?_)
   obtain ⟨g11,H⟩:=gdE H
   refine rp (Pu.addS rfl rfl g11) (rA rfl (RS.nil (k8 _ _ (kq [4] ?_))))
   obtain rfl:=sj H
   refine T.rt (Cont.ret1 rfl rfl fun w' s=>?_)
   exact ⟨rfl,s.ext⟩
  intro hJ8
  refine RS.splitP 21 rfl (fun hc7=>?_) (fun hc7=>?_)
  ·refine au 2 ?_
   refine rp (Pu.subS rfl rfl (g9 hc7)) (au 2 ?_)
   exact hJ8 _ _ ⟨dAndT hc7,rfl,rfl,trivial⟩ (fun w s=>s)
  refine au 5 ?_
  exact hJ8 _ _ ⟨dAndF hc7,rfl,rfl,trivial⟩ (fun w s=>s)
 intro hJ4
 refine RS.splitP 12 rfl (fun hc3=>?_) (fun hc3=>?_)
 ·refine au 2 ?_
  refine rp (Pu.subS rfl rfl (g5 hc3)) (au 2 ?_)
  exact hJ4 _ _ ⟨dAndT hc3,rfl,rfl,trivial⟩ (fun w s=>s)
 refine au 5 ?_
 exact hJ4 _ _ ⟨dAndF hc3,rfl,rfl,trivial⟩ (fun w s=>s)
theorem fixed_Sub_walk (a0_a:Int) (a1_b:Int) (w:World) {r:Int} (H:fixed_Sub a0_a a1_b = some r):Calls Tryz.prog 247 #[.int .i64 a0_a,.int .i64 a1_b] w fun e w'=>e = .returned (.int .i64 r)∧Ext w w':=by
 unfold fixed_Sub at H
 refine te Tryz.func247 (Sat.start w) ?_
 refine au 2 ?_
 refine T.seq fun _ k2=>T.region (au 2 ?_)
 obtain ⟨x1,hx1,H⟩:=bindE H
 refine rq (Qt.call (vs:=[_]) ent285 rfl fun w s=>fixed_Neg_walk a1_b w  hx1) ?_
 obtain ⟨x2,hx2,H⟩:=bindE H
 refine rq (Qt.call (vs:=[_,_]) ent248 rfl fun w s=>fixed_Add_walk a0_a x1 w  hx2) (rA rfl (RS.nil (k2 _ _ (kq [4] ?_))))
 obtain rfl:=sj H
 refine T.rt (Cont.ret1 rfl rfl fun w' s=>?_)
 exact ⟨rfl,s.ext⟩
theorem bits_Mul64_walk (a0_x:Int) (a1_y:Int) (w:World) {r:Int × Int} (H:bits_Mul64 a0_x a1_y = some r):Calls Tryz.prog 150 #[.int .u64 a0_x,.int .u64 a1_y] w fun e w'=>e = .returned (.tuple #[.int .u64 r.1,.int .u64 r.2])∧Ext w w':=by
 unfold bits_Mul64 at H
 refine te Tryz.func150 (Sat.start w) ?_
 refine au 3 ?_
 refine T.seq fun _ k2=>T.region (rM rfl (rp (Pu.uand rfl rfl) (rA rfl (RS.nil (k2 _ _ (kq [0,1,6] ?_))))))
 refine T.seq fun _ k3=>T.region (rM rfl (rp (Pu.ushr rfl rfl (by decide)) (rA rfl (RS.nil (k3 _ _ ?_)))))
 refine T.seq fun _ k4=>T.region (rM rfl (rp (Pu.uand rfl rfl) (rA rfl (RS.nil (k4 _ _ (kq [0,1,6,7,8] ?_))))))
 refine T.seq fun _ k5=>T.region (rM rfl (rp (Pu.ushr rfl rfl (by decide)) (rA rfl (RS.nil (k5 _ _ ?_)))))
 refine T.seq fun _ k6=>T.region (au 2 ?_)
 refine rp (Pu.umul rfl rfl) (rA rfl (RS.nil (k6 _ _ (kq [0,1,6,7,8,9,10] ?_))))
 refine T.seq fun _ k7=>T.region (au 2 ?_)
 refine rp (Pu.umul rfl rfl) (rM rfl (rp (Pu.ushr rfl rfl (by decide)) (rp (Pu.uadd rfl rfl) (rA rfl (RS.nil (k7 _ _ (kq [0,1,6,7,9,11] ?_)))))))
 refine T.seq fun _ k8=>T.region (rM rfl (rp (Pu.uand rfl rfl) (rA rfl (RS.nil (k8 _ _ ?_)))))
 refine T.seq fun _ k9=>T.region (rM rfl (rp (Pu.ushr rfl rfl (by decide)) (rA rfl (RS.nil (k9 _ _ (kq [0,1,6,7,9,12,13] ?_))))))
 refine T.seq fun _ k10=>T.region (au 3 ?_)
 refine rp (Pu.umul rfl rfl) (rp (Pu.uadd rfl rfl) (rA rfl (RS.nil (k10 _ _ (kq [0,1,7,9,12,13] ?_)))))
 refine T.seq fun _ k11=>T.region (au 2 ?_)
 refine rp (Pu.umul rfl rfl) (rM rfl (rp (Pu.uadd rfl rfl) (rM rfl (rp (Pu.ushr rfl rfl (by decide)) (rp (Pu.uadd rfl rfl) (rA rfl (RS.nil (k11 _ _ (kq [0,1,4] ?_)))))))))
 refine T.seq fun _ k12=>T.region (au 2 ?_)
 refine rp (Pu.umul rfl rfl) (rA rfl (RS.nil (k12 _ _ (kq [4,5] ?_))))
 obtain rfl:=sj H
 refine T.rt (Cont.ret2 rfl rfl rfl fun w' s=>?_)
 exact ⟨rfl,s.ext⟩
theorem fixed_Square_walk (a0_a:Int) (w:World) {r:Wid} (H:fixed_Square a0_a = some r):Calls Tryz.prog 253 #[.int .u64 a0_a] w fun e w'=>e = .returned (.agg #[.int .u64 r.hi,.int .u64 r.lo])∧Ext w w':=by
 unfold fixed_Square at H
 refine te Tryz.func253 (Sat.start w) ?_
 refine T.seq fun _ k1=>T.region (RS.solid (Sd.alloc zr328 rfl) rfl rfl fun b1=>RS.nil (k1 _ _ ?_))
 refine T.seq fun _ k2=>T.region (au 2 ?_)
 obtain ⟨x2,hx2,H⟩:=bindE H
 refine rq (Qt.call (vs:=[_,_]) ent150 rfl fun w s=>bits_Mul64_walk a0_a a0_a w  hx2) (au 5 ?_)
 refine RS.nil (k2 _ _ (kq [2,3,4] ?_))
 refine T.seq fun _ k3=>T.region (au 2 ?_)
 refine rp (Pu.build (cells:=[_,_]) st328 rfl rfl) (RS.solid (Sd.stB (cs':=[_,_]) 0 ty328.h rfl rfl rfl rfl rfl rfl rfl rfl) rfl rfl fun _=>RS.nil (k3 _ _ (kq [2] ?_)))
 obtain rfl:=sj H
 refine T.rt (Cont.retC 0 rfl ty328.h rfl rfl rfl fun w' s=>?_)
 exact ⟨rfl,s.ext⟩
theorem fixed_Wide_Plus_walk (a0_w:Wid) (a1_v:Wid) (w:World) {r:Wid} (H:fixed_Wide_Plus a0_w a1_v = some r):Calls Tryz.prog 289 #[.agg #[.int .u64 a0_w.hi,.int .u64 a0_w.lo],.agg #[.int .u64 a1_v.hi,.int .u64 a1_v.lo]] w fun e w'=>e = .returned (.agg #[.int .u64 r.hi,.int .u64 r.lo])∧Ext w w':=by
 unfold fixed_Wide_Plus at H
 refine te Tryz.func289 (Sat.start w) ?_
 refine T.seq fun _ k1=>T.region (RS.solid (Sd.box (cs:=[_,_]) rfl rfl) rfl rfl fun b1=>RS.solid (Sd.box (cs:=[_,_]) rfl rfl) rfl rfl fun b2=>RS.solid (Sd.alloc zr328 rfl) rfl rfl fun b3=>RS.nil (k1 _ _ ?_))
 refine T.seq fun _ k2=>T.region (au 4 ?_)
 obtain ⟨g4,H⟩:=gdE H
 refine rp (Pu.add64 Tryz.func321 isadd321 rfl rfl rfl g4) (au 5 ?_)
 refine RS.nil (k2 _ _ (kq [2,3,4,5,6] ?_))
 refine T.seq fun _ k3=>T.region (au 5 ?_)
 obtain ⟨g5,H⟩:=gdE H
 refine rp (Pu.add64 Tryz.func321 isadd321 rfl rfl rfl g5) (au 5 ?_)
 refine RS.nil (k3 _ _ (kq [4,5,7] ?_))
 refine T.seq fun _ k4=>T.region (au 2 ?_)
 refine rp (Pu.build (cells:=[_,_]) st328 rfl rfl) (RS.solid (Sd.stB (cs':=[_,_]) 2 ty328.h rfl rfl rfl rfl rfl rfl rfl rfl) rfl rfl fun _=>RS.nil (k4 _ _ (kq [4] ?_)))
 obtain rfl:=sj H
 refine T.rt (Cont.retC 2 rfl ty328.h rfl rfl rfl fun w' s=>?_)
 exact ⟨rfl,s.ext⟩
theorem fixed_Wide_Below_walk (a0_w:Wid) (a1_v:Wid) (w:World) {r:Bool} (H:fixed_Wide_Below a0_w a1_v = some r):Calls Tryz.prog 252 #[.agg #[.int .u64 a0_w.hi,.int .u64 a0_w.lo],.agg #[.int .u64 a1_v.hi,.int .u64 a1_v.lo]] w fun e w'=>e = .returned (.bool r)∧Ext w w':=by
 unfold fixed_Wide_Below at H
 refine te Tryz.func252 (Sat.start w) ?_
 refine T.seq fun _ k1=>T.region (RS.solid (Sd.box (cs:=[_,_]) rfl rfl) rfl rfl fun b1=>RS.solid (Sd.box (cs:=[_,_]) rfl rfl) rfl rfl fun b2=>rA rfl (RS.nil (k1 _ _ (kq [2,3] ?_))))
 refine T.seq fun _ k2=>T.region (au 6 ?_)
 refine RS.joinV 13 23 (.bool (decide ((a0_w.hi < a1_v.hi) ∨ ((a0_w.hi = a1_v.hi)∧(a0_w.lo < a1_v.lo))))) [] trivial ?_ ?_
 ·refine rA rfl (RS.nil (k2 _ _ ?_))
  obtain rfl:=sj H
  refine T.rt (Cont.ret1 rfl rfl fun w' s=>?_)
  exact ⟨rfl,s.ext⟩
 intro hJ4
 refine RS.splitP 10 rfl (fun hc3=>?_) (fun hc3=>?_)
 ·refine au 13 ?_
  exact hJ4 _ _ ⟨dOrT hc3,trivial⟩ (fun w s=>s)
 refine au 6 ?_
 refine RS.joinV 6 22 (.bool (decide ((a0_w.hi = a1_v.hi)∧(a0_w.lo < a1_v.lo)))) [(2,_),(3,_),(5,_),(6,_),(7,_),(8,_),(9,_),(10,_),(11,_),(12,_),(13,_),(14,_),(15,_)] sb ?_ ?_
 ·refine rp (Pu.pickF rfl rfl) ?_
  exact hJ4 _ _ ⟨dOrF hc3,trivial⟩ (fun w s=>s)
 intro hJ6
 refine RS.splitP 16 rfl (fun hc5=>?_) (fun hc5=>?_)
 ·refine au 6 ?_
  exact hJ6 _ _ ⟨dAndT hc5,rfl,rfl,rfl,rfl,rfl,rfl,rfl,rfl,rfl,rfl,rfl,rfl,rfl,trivial⟩ (fun w s=>s)
 refine au 6 ?_
 exact hJ6 _ _ ⟨dAndF hc5,rfl,rfl,rfl,rfl,rfl,rfl,rfl,rfl,rfl,rfl,rfl,rfl,rfl,trivial⟩ (fun w s=>s)
theorem fixed_Wide_Root_walk (a0_w:Wid) (w:World) {r:Int} (H:fixed_Wide_Root a0_w = some r):Calls Tryz.prog 295 #[.agg #[.int .u64 a0_w.hi,.int .u64 a0_w.lo]] w fun e w'=>e = .returned (.int .i64 r)∧Ext w w':=by
 unfold fixed_Wide_Root at H
 refine te Tryz.func295 (Sat.start w) ?_
 refine T.seq fun _ k1=>T.region (RS.solid (Sd.box (cs:=[_,_]) rfl rfl) rfl rfl fun b1=>rA rfl (RS.nil (k1 _ _ ?_)))
 refine au 2 ?_
 refine T.seq fun _ k3=>au 2 ?_
 refine T.joinE (σ:=Int) (γ:=Unit) H (fun s=>s) [] trivial (fun v3 _=>[(3,.int .u64 v3)]) (fun v3 _=>Sat w [blk b1 [.int .u64 a0_w.hi,.int .u64 a0_w.lo] 328]) ?_ ?_
 ·rintro v3 ⟨⟩ H
  try dsimp only [Ex.then] at H
  refine Cont.kq [3] ?_
  refine id (k3 _ _ ?_)
  refine T.seq fun _ k5=>T.region (rM rfl ?_)
  obtain ⟨g4,H⟩:=gdE H
  refine rp (Pu.convS us112 ul2 rfl g4) (rA rfl (RS.nil (k5 _ _ (kq [2] ?_))))
  obtain rfl:=sj H
  refine T.rt (Cont.ret1 rfl rfl fun w' s=>?_)
  exact ⟨rfl,s.ext⟩
 intro z2 hz2 HX2 hJ2
 refine T.block ?_
 refine T.loopA (γ:=Unit) hz2 [(1,_)] (fun (v5,v6) _=>[(3,.int .u64 v5),(4,.int .i64 v6)]) (fun (v5,v6) _=>Sat w [blk b1 [.int .u64 a0_w.hi,.int .u64 a0_w.lo] 328]) () sb sb (fun w s=>s) ?_
 rintro ⟨v5,v6⟩ ⟨⟩ y7 H hd2 KL2 hL2
 try dsimp only [Ex.then] at H
 refine kq [3,4,1] ?_
 refine T.seq fun _ k6=>au 3 ?_
 refine T.cP H rfl (fun hc8 H=>?_) (fun hc8 H=>?_)
 ·refine T.skip (k6 _ _ ?_)
  refine T.seq fun _ k8=>T.block (T.seq fun _ k9=>T.region (au 2 ?_))
  obtain ⟨g9,H⟩:=gdE H
  refine rp (Pu.ushl rfl rfl g9) (rp (Pu.uor rfl rfl) (rA rfl (RS.nil (k9 _ _ (kq [1,3,4,5] ?_)))))
  refine T.seq fun _ k10=>dr mixed [1,0,1,1,0] ?_
  refine au 2 ?_
  obtain ⟨x10,hx10,H⟩:=bindE H
  refine dq rfl (Qt.call (vs:=[_]) ent253 rfl fun w s=>fixed_Square_walk (uor v5 (uw ((1:Int) * 2 ^ v6.toNat))) w  hx10) ?_
  obtain ⟨x11,hx11,H⟩:=bindE H
  refine dq rfl (Qt.call (vs:=[_,_]) ent252 rfl fun w s=>fixed_Wide_Below_walk a0_w x10 w  hx11) (dp rfl (Pu.not rfl) (RD.nil (k10 _ _ ?_)))
  refine T.cB H rfl (fun _ H=>nomatch H) (fun hc12 H=>?_)
  refine T.skip (k8 _ _ (kq [1,3,4] ?_))
  refine T.region (rM rfl ?_)
  obtain ⟨g13,H⟩:=gdE H
  refine rp (Pu.subS rfl rfl g13) (rA rfl (RS.nil (hL2 _ _ (v5,(v6 - 1)) () H sb sb (fun w s=>s))))
 obtain rfl:=hd2 _ H
 refine T.xt (hJ2 _ _ v5 () HX2 trivial sb (fun w s=>s))
theorem vec_Norm_walk (a0_v:Vec) (w:World) {r:Vec} (H:vec_Norm a0_v = some r):Calls Tryz.prog 267 #[.agg #[.int .i64 a0_v.x,.int .i64 a0_v.y]] w fun e w'=>e = .returned (.agg #[.int .i64 r.x,.int .i64 r.y])∧Ext w w':=by
 unfold vec_Norm at H
 refine te Tryz.func267 (Sat.start w) ?_
 refine T.seq fun _ k1=>T.region (RS.solid (Sd.box (cs:=[_,_]) rfl rfl) rfl rfl fun b1=>RS.solid (Sd.alloc zr33 rfl) rfl rfl fun b2=>RS.nil (k1 _ _ ?_))
 refine T.seq fun _ k2=>dr mixed [0,1,1,0,1,1,0,4] ?_
 refine au 2 ?_
 obtain ⟨x3,hx3,H⟩:=bindE H
 refine dq rfl (Qt.call (vs:=[_]) ent283 rfl fun w s=>fixed_Norm_walk a0_v.x w  hx3) (au 2 ?_)
 obtain ⟨x4,hx4,H⟩:=bindE H
 refine dq rfl (Qt.call (vs:=[_]) ent283 rfl fun w s=>fixed_Norm_walk a0_v.y w  hx4) (dp rfl (Pu.build (cells:=[_,_]) st33 rfl rfl) (RD.solid rfl (.inr rfl) rfl rfl (Sd.stB (cs':=[_,_]) 1 ty33.h rfl rfl rfl rfl rfl rfl rfl rfl) (fun _=>ClE.sat _ _) (fun _ _ _=>trivial) (fun h=>nomatch h) fun _=>?_))
 refine RD.nil (k2 _ _ (kq [2] ?_))
 obtain rfl:=sj H
 refine T.rt (Cont.retC 1 rfl ty33.h rfl rfl rfl fun w' s=>?_)
 exact ⟨rfl,s.ext⟩
theorem vec_Sub_walk (a0_a:Vec) (a1_b:Vec) (w:World) {r:Vec} (H:vec_Sub a0_a a1_b = some r):Calls Tryz.prog 251 #[.agg #[.int .i64 a0_a.x,.int .i64 a0_a.y],.agg #[.int .i64 a1_b.x,.int .i64 a1_b.y]] w fun e w'=>e = .returned (.agg #[.int .i64 r.x,.int .i64 r.y])∧Ext w w':=by
 unfold vec_Sub at H
 refine te Tryz.func251 (Sat.start w) ?_
 refine T.seq fun _ k1=>T.region (RS.solid (Sd.box (cs:=[_,_]) rfl rfl) rfl rfl fun b1=>RS.solid (Sd.box (cs:=[_,_]) rfl rfl) rfl rfl fun b2=>RS.solid (Sd.alloc zr33 rfl) rfl rfl fun b3=>RS.nil (k1 _ _ ?_))
 refine T.seq fun _ k2=>dr mixed [0,1,0,1,1,0,1,0,1,1,0,4] ?_
 refine au 4 ?_
 obtain ⟨x4,hx4,H⟩:=bindE H
 refine dq rfl (Qt.call (vs:=[_,_]) ent247 rfl fun w s=>fixed_Sub_walk a0_a.x a1_b.x w  hx4) (au 4 ?_)
 obtain ⟨x5,hx5,H⟩:=bindE H
 refine dq rfl (Qt.call (vs:=[_,_]) ent247 rfl fun w s=>fixed_Sub_walk a0_a.y a1_b.y w  hx5) (dp rfl (Pu.build (cells:=[_,_]) st33 rfl rfl) (RD.solid rfl (.inr rfl) rfl rfl (Sd.stB (cs':=[_,_]) 2 ty33.h rfl rfl rfl rfl rfl rfl rfl rfl) (fun _=>ClE.sat _ _) (fun _ _ _=>trivial) (fun h=>nomatch h) fun _=>?_))
 refine RD.nil (k2 _ _ (kq [4] ?_))
 obtain rfl:=sj H
 refine T.rt (Cont.retC 2 rfl ty33.h rfl rfl rfl fun w' s=>?_)
 exact ⟨rfl,s.ext⟩
theorem vec_square_walk (a0_v:Vec) (w:World) {r:Wid} (H:vec_square a0_v = some r):Calls Tryz.prog 250 #[.agg #[.int .i64 a0_v.x,.int .i64 a0_v.y]] w fun e w'=>e = .returned (.agg #[.int .u64 r.hi,.int .u64 r.lo])∧Ext w w':=by
 unfold vec_square at H
 refine te Tryz.func250 (Sat.start w) ?_
 refine T.seq fun _ k1=>T.region (RS.solid (Sd.box (cs:=[_,_]) rfl rfl) rfl rfl fun b1=>RS.solid (Sd.alloc zr328 rfl) rfl rfl fun b2=>RS.nil (k1 _ _ ?_))
 refine T.seq fun _ k2=>T.region (au 2 ?_)
 obtain ⟨x3,hx3,H⟩:=bindE H
 refine rq (Qt.call (vs:=[_]) ent288 rfl fun w s=>fixed_Abs_walk a0_v.x w  hx3) (au 5 ?_)
 refine RS.nil (k2 _ _ (kq [1,2,3] ?_))
 refine T.seq fun _ k3=>T.region (au 2 ?_)
 obtain ⟨x4,hx4,H⟩:=bindE H
 refine rq (Qt.call (vs:=[_]) ent288 rfl fun w s=>fixed_Abs_walk a0_v.y w  hx4) (au 5 ?_)
 refine RS.nil (k3 _ _ (kq [2,3,5] ?_))
 refine T.seq fun _ k4=>T.region (rM rfl ?_)
 obtain ⟨x5,hx5,H⟩:=bindE H
 refine rq (Qt.call (vs:=[_]) ent253 rfl fun w s=>fixed_Square_walk x3.1 w  hx5) (rM rfl ?_)
 obtain ⟨x6,hx6,H⟩:=bindE H
 refine rq (Qt.call (vs:=[_]) ent253 rfl fun w s=>fixed_Square_walk x4.1 w  hx6) ?_
 obtain ⟨x7,hx7,H⟩:=bindE H
 refine rq (Qt.call (vs:=[_,_]) ent289 rfl fun w s=>fixed_Wide_Plus_walk x5 x6 w  hx7) (RS.solid (Sd.stB (cs':=[_,_]) 1 ty328.h rfl rfl rfl rfl rfl rfl rfl rfl) rfl rfl fun _=>RS.nil (k4 _ _ (kq [2] ?_)))
 obtain rfl:=sj H
 refine T.rt (Cont.retC 1 rfl ty328.h rfl rfl rfl fun w' s=>?_)
 exact ⟨rfl,s.ext⟩
theorem vec_Len_walk (a0_v:Vec) (w:World) {r:Int} (H:vec_Len a0_v = some r):Calls Tryz.prog 261 #[.agg #[.int .i64 a0_v.x,.int .i64 a0_v.y]] w fun e w'=>e = .returned (.int .i64 r)∧Ext w w':=by
 unfold vec_Len at H
 refine te Tryz.func261 (Sat.start w) ?_
 refine T.seq fun _ k1=>T.region (RS.solid (Sd.box (cs:=[_,_]) rfl rfl) rfl rfl fun b1=>rA rfl (RS.nil (k1 _ _ ?_)))
 refine T.seq fun _ k2=>T.region (rq (Qt.ldBA (us:=[_,_]) 0 ty33.h rfl rfl rfl rfl) ?_)
 obtain ⟨x2,hx2,H⟩:=bindE H
 refine rq (Qt.call (vs:=[_]) ent250 rfl fun w s=>vec_square_walk a0_v w  hx2) ?_
 obtain ⟨x3,hx3,H⟩:=bindE H
 refine rq (Qt.call (vs:=[_]) ent295 rfl fun w s=>fixed_Wide_Root_walk x2 w  hx3) (rA rfl (RS.nil (k2 _ _ (kq [2] ?_))))
 obtain rfl:=sj H
 refine T.rt (Cont.ret1 rfl rfl fun w' s=>?_)
 exact ⟨rfl,s.ext⟩
theorem vec_Within_walk (a0_a:Vec) (a1_b:Vec) (a2_r:Int) (w:World) {r:Bool} (H:vec_Within a0_a a1_b a2_r = some r):Calls Tryz.prog 179 #[.agg #[.int .i64 a0_a.x,.int .i64 a0_a.y],.agg #[.int .i64 a1_b.x,.int .i64 a1_b.y],.int .i64 a2_r] w fun e w'=>e = .returned (.bool r)∧Ext w w':=by
 unfold vec_Within at H
 refine te Tryz.func179 (Sat.start w) ?_
 refine T.seq fun _ k1=>T.region (RS.solid (Sd.box (cs:=[_,_]) rfl rfl) rfl rfl fun b1=>RS.solid (Sd.box (cs:=[_,_]) rfl rfl) rfl rfl fun b2=>rA rfl (RS.nil (k1 _ _ (kq [2,3,4] ?_))))
 refine T.seq fun _ k2=>au 3 ?_
 refine T.cP H rfl (fun _ H=>nomatch H) (fun hc3 H=>?_)
 refine T.skip (k2 _ _ ?_)
 refine T.seq fun _ k5=>T.region (au 2 ?_)
 obtain ⟨x4,hx4,H⟩:=bindE H
 refine rq (Qt.call (vs:=[_,_]) ent251 rfl fun w s=>vec_Sub_walk a0_a a1_b w  hx4) ?_
 obtain ⟨x5,hx5,H⟩:=bindE H
 refine rq (Qt.call (vs:=[_]) ent250 rfl fun w s=>vec_square_walk x4 w  hx5) (rM rfl (rp (Pu.convUW us2 ul112 rfl) ?_))
 obtain ⟨x6,hx6,H⟩:=bindE H
 refine rq (Qt.call (vs:=[_]) ent253 rfl fun w s=>fixed_Square_walk (a2_r % 18446744073709551616) w  hx6) ?_
 obtain ⟨x7,hx7,H⟩:=bindE H
 refine rq (Qt.call (vs:=[_,_]) ent252 rfl fun w s=>fixed_Wide_Below_walk x5 x6 w  hx7) (rA rfl (RS.nil (k5 _ _ (kq [6] ?_))))
 obtain rfl:=sj H
 refine T.rt (Cont.ret1 rfl rfl fun w' s=>?_)
 exact ⟨rfl,s.ext⟩
theorem vec_Clamp_walk (a0_v:Vec) (a1_most:Int) (w:World) {r:Vec} (H:vec_Clamp a0_v a1_most = some r):Calls Tryz.prog 210 #[.agg #[.int .i64 a0_v.x,.int .i64 a0_v.y],.int .i64 a1_most] w fun e w'=>e = .returned (.agg #[.int .i64 r.x,.int .i64 r.y])∧Ext w w':=by
 unfold vec_Clamp at H
 refine te Tryz.func210 (Sat.start w) ?_
 refine T.seq fun _ k1=>T.region (RS.solid (Sd.box (cs:=[_,_]) rfl rfl) rfl rfl fun b1=>RS.solid (Sd.alloc zr33 rfl) rfl rfl fun b2=>RS.nil (k1 _ _ ?_))
 refine T.seq fun _ k2=>T.region (rM rfl (rp (Pu.maxI rfl rfl) (rA rfl (RS.nil (k2 _ _ (kq [1,2,4] ?_))))))
 refine T.seq fun _ k3=>T.region (rq (Qt.ldBA (us:=[_,_]) 0 ty33.h rfl rfl rfl rfl) ?_)
 obtain ⟨x3,hx3,H⟩:=bindE H
 refine rq (Qt.call (vs:=[_]) ent267 rfl fun w s=>vec_Norm_walk a0_v w  hx3) (RS.solid (Sd.stB (cs':=[_,_]) 0 ty33.h rfl rfl rfl rfl rfl rfl rfl rfl) rfl rfl fun _=>RS.nil (k3 _ _ ?_))
 refine T.seq fun _ k4=>T.region (rq (Qt.ldBA (us:=[_,_]) 0 ty33.h rfl rfl rfl rfl) ?_)
 obtain ⟨x4,hx4,H⟩:=bindE H
 refine rq (Qt.call (vs:=[_]) ent261 rfl fun w s=>vec_Len_walk x3 w  hx4) (rA rfl (RS.nil (k4 _ _ (kq [1,2,4,5] ?_))))
 refine T.seq fun _ k5=>au 4 ?_
 refine T.cP H rfl (fun hc5 H=>?_) (fun hc5 H=>?_)
 ·refine kq [2,4] ?_
  refine au 3 ?_
  obtain rfl:=sj H
  refine T.rt (Cont.retC 1 rfl ty33.h rfl rfl rfl fun w' s=>?_)
  exact ⟨rfl,s.ext⟩
 refine T.skip (k5 _ _ (kq [1,2,4,5] ?_))
 refine T.seq fun _ k8=>?_
 exact nomatch H
theorem disc_Place_walk (a0_p:Vec) (w:World) {r:Bool} (H:disc_Place a0_p = some r):Calls Tryz.prog 184 #[.agg #[.int .i64 a0_p.x,.int .i64 a0_p.y]] w fun e w'=>e = .returned (.bool r)∧Ext w w':=by
 unfold disc_Place at H
 refine te Tryz.func184 (Sat.start w) ?_
 refine T.seq fun _ k1=>T.region (RS.solid (Sd.box (cs:=[_,_]) rfl rfl) rfl rfl fun b1=>rA rfl (RS.nil (k1 _ _ ?_)))
 refine T.seq fun _ k2=>T.region (au 4 ?_)
 refine RS.joinV 4 10 (.bool (decide (((-1099511627776) ≤ a0_p.x)∧(a0_p.x ≤ 1099511627776)))) [(1,_),(2,_)] sb ?_ ?_
 ·refine rM rfl ?_
  refine RS.joinV 4 15 (.bool (decide ((((-1099511627776) ≤ a0_p.x)∧(a0_p.x ≤ 1099511627776))∧((-1099511627776) ≤ a0_p.y)))) [(1,_),(2,_)] sb ?_ ?_
  ·refine rM rfl ?_
   refine RS.joinV 4 20 (.bool (decide (((((-1099511627776) ≤ a0_p.x)∧(a0_p.x ≤ 1099511627776))∧((-1099511627776) ≤ a0_p.y))∧(a0_p.y ≤ 1099511627776)))) [(2,_)] sb ?_ ?_
   ·refine rA rfl (RS.nil (k2 _ _ ?_))
    obtain rfl:=sj H
    refine T.rt (Cont.ret1 rfl rfl fun w' s=>?_)
    exact ⟨rfl,s.ext⟩
   intro hJ7
   refine RS.splitP 16 rfl (fun hc6=>?_) (fun hc6=>?_)
   ·refine au 4 ?_
    exact hJ7 _ _ ⟨dAndT hc6,rfl,trivial⟩ (fun w s=>s)
   refine au 4 ?_
   exact hJ7 _ _ ⟨dAndF hc6,rfl,trivial⟩ (fun w s=>s)
  intro hJ5
  refine RS.splitP 11 rfl (fun hc4=>?_) (fun hc4=>?_)
  ·refine au 4 ?_
   exact hJ5 _ _ ⟨dAndT hc4,rfl,rfl,trivial⟩ (fun w s=>s)
  refine au 4 ?_
  exact hJ5 _ _ ⟨dAndF hc4,rfl,rfl,trivial⟩ (fun w s=>s)
 intro hJ3
 refine RS.splitP 6 rfl (fun hc2=>?_) (fun hc2=>?_)
 ·refine au 4 ?_
  exact hJ3 _ _ ⟨dAndT hc2,rfl,rfl,trivial⟩ (fun w s=>s)
 refine au 4 ?_
 exact hJ3 _ _ ⟨dAndF hc2,rfl,rfl,trivial⟩ (fun w s=>s)
theorem disc_form_walk (a0_p:Vec) (a1_r:Int) (w:World) {r:Bool} (H:disc_form a0_p a1_r = some r):Calls Tryz.prog 175 #[.agg #[.int .i64 a0_p.x,.int .i64 a0_p.y],.int .i64 a1_r] w fun e w'=>e = .returned (.bool r)∧Ext w w':=by
 unfold disc_form at H
 refine te Tryz.func175 (Sat.start w) ?_
 refine T.seq fun _ k1=>T.region (RS.solid (Sd.box (cs:=[_,_]) rfl rfl) rfl rfl fun b1=>rA rfl (RS.nil (k1 _ _ ?_)))
 refine T.seq fun _ k2=>T.region (au 3 ?_)
 refine RS.joinV 3 10 (.bool (decide ((0 ≤ a1_r)∧(a1_r ≤ 262144)))) [(2,_),(4,_)] sb ?_ ?_
 ·refine rM rfl ?_
  refine RS.joinB H 3 14 (fun b6=>.bool b6) [(4,_)] sb ?_ ?_
  ·intro b6 H
   refine rA rfl (RS.nil (k2 _ _ ?_))
   obtain rfl:=sj H
   refine T.rt (Cont.ret1 rfl rfl fun w' s=>?_)
   exact ⟨rfl,s.ext⟩
  intro z7 H hJ5
  refine RS.splitP 11 rfl (fun hc4=>?_) (fun hc4=>?_)
  ·have H:=ifT hc4 H
   refine rq (Qt.ldBA (us:=[_,_]) 0 ty33.h rfl rfl rfl rfl) ?_
   obtain ⟨x8,hx8,H⟩:=bindE H
   refine rq (Qt.call (vs:=[_]) ent184 rfl fun w s=>disc_Place_walk a0_p w  hx8) (rp (Pu.pickT rfl rfl) ?_)
   obtain rfl:=sj H
   exact hJ5 _ _ sb (fun w s=>s)
  have H:=ifF hc4 H
  refine au 3 ?_
  obtain rfl:=sj H
  exact hJ5 _ _ sb (fun w s=>s)
 intro hJ3
 refine RS.splitP 7 rfl (fun hc2=>?_) (fun hc2=>?_)
 ·refine au 3 ?_
  exact hJ3 _ _ ⟨dAndT hc2,rfl,rfl,trivial⟩ (fun w s=>s)
 refine au 3 ?_
 exact hJ3 _ _ ⟨dAndF hc2,rfl,rfl,trivial⟩ (fun w s=>s)
theorem disc_round_walk (a0_r:Int) (w:World) {r:Int} (H:disc_round a0_r = some r):Calls Tryz.prog 180 #[.int .i64 a0_r] w fun e w'=>e = .returned (.int .i64 r)∧Ext w w':=by
 unfold disc_round at H
 refine te Tryz.func180 (Sat.start w) ?_
 refine au 2 ?_
 refine T.seq fun _ k2=>T.region (rM rfl (rp (Pu.maxI rfl rfl) (rp (Pu.minI rfl rfl) (rA rfl (RS.nil (k2 _ _ (kq [2] ?_)))))))
 obtain rfl:=sj H
 refine T.rt (Cont.ret1 rfl rfl fun w' s=>?_)
 exact ⟨rfl,s.ext⟩
theorem disc_Hits_walk (a0_g:Grd) (a1_t:Int) (a2_p:Vec) (a3_r:Int) (w:World) {v0:Value} (h0:R (hpOf w) a0_g.tiles [v0]) {r:Bool} (H:disc_Hits a0_g a1_t a2_p a3_r = some r):Calls Tryz.prog 176 #[.agg #[.int .i64 a0_g.w,.int .i64 a0_g.h,v0],.int .i64 a1_t,.agg #[.int .i64 a2_p.x,.int .i64 a2_p.y],.int .i64 a3_r] w fun e w'=>e = .returned (.bool r)∧Ext w w':=by
 have hm0:=R_max h0
 obtain ⟨p0,c0,rfl⟩:=R_form h0
 unfold disc_Hits at H
 refine te Tryz.func176 (Sat.start w) ?_
 refine T.seq fun _ k1=>?_
 exact nomatch H
theorem disc_Fits_walk (a0_g:Grd) (a1_open:List Bool) (a2_p:Vec) (a3_r:Int) (w:World) {v0 v1:Value} (h0:R (hpOf w) a0_g.tiles [v0]) (h1:R (hpOf w) a1_open [v1]) {r:Bool} (H:disc_Fits a0_g a1_open a2_p a3_r = some r):Calls Tryz.prog 119 #[.agg #[.int .i64 a0_g.w,.int .i64 a0_g.h,v0],v1,.agg #[.int .i64 a2_p.x,.int .i64 a2_p.y],.int .i64 a3_r] w fun e w'=>e = .returned (.bool r)∧Ext w w':=by
 have hm0:=R_max h0
 obtain ⟨p0,c0,rfl⟩:=R_form h0
 have hm1:=R_max h1
 obtain ⟨p1,c1,rfl⟩:=R_form h1
 unfold disc_Fits at H
 refine te Tryz.func119 (Sat.start w) ?_
 refine T.seq fun _ k1=>T.region (RS.solid (Sd.box (cs:=[_,_,_]) rfl rfl) rfl rfl fun b1=>RS.solid (Sd.box (cs:=[_,_]) rfl rfl) rfl rfl fun b2=>rA rfl (RS.nil (k1 _ _ (kq [1,3,4,6] ?_))))
 refine T.seq fun _ k2=>dr mixed [0,1,0,0,1,0,0,0] ?_
 refine au 2 ?_
 obtain ⟨g3,H⟩:=gdE H
 refine dp rfl (Pu.mulS rfl rfl g3) (au 2 ?_)
 obtain ⟨g4,H⟩:=gdE H
 refine dp rfl (Pu.mulS rfl rfl g4) (au 2 ?_)
 refine RD.nil (k2 _ _ (kq [1,3,4,6,9,10] ?_))
 refine T.seq fun _ k3=>T.seq fun _ k4=>T.region (au 2 ?_)
 obtain ⟨x5,hx5,H⟩:=bindE H
 refine rq (Qt.call (vs:=[_,_]) ent175 rfl fun w s=>disc_form_walk a2_p a3_r w  hx5) (au 2 ?_)
 obtain ⟨g8,H⟩:=gdE H
 refine RS.joinV 6 30 (.bool (decide (((!x5) = true) ∨ ((a2_p.x - a3_r) < 0)))) [(1,_),(3,_),(4,_),(6,_),(9,_),(10,_)] sb ?_ ?_
 ·refine rM rfl ?_
  obtain ⟨g11,H⟩:=gdE H
  refine RS.joinV 7 38 (.bool (decide ((((!x5) = true) ∨ ((a2_p.x - a3_r) < 0)) ∨ ((a0_g.w * 65536) < (a2_p.x + a3_r))))) [(1,_),(3,_),(4,_),(6,_),(10,_)] sb ?_ ?_
  ·refine rM rfl ?_
   obtain ⟨g14,H⟩:=gdE H
   refine RS.joinV 6 45 (.bool (decide (((((!x5) = true) ∨ ((a2_p.x - a3_r) < 0)) ∨ ((a0_g.w * 65536) < (a2_p.x + a3_r))) ∨ ((a2_p.y - a3_r) < 0)))) [(1,_),(3,_),(4,_),(6,_),(10,_)] sb ?_ ?_
   ·refine rM rfl ?_
    obtain ⟨g17,H⟩:=gdE H
    refine RS.joinV 7 53 (.bool (decide ((((((!x5) = true) ∨ ((a2_p.x - a3_r) < 0)) ∨ ((a0_g.w * 65536) < (a2_p.x + a3_r))) ∨ ((a2_p.y - a3_r) < 0)) ∨ ((a0_g.h * 65536) < (a2_p.y + a3_r))))) [(1,_),(3,_),(4,_),(6,_)] sb ?_ ?_
    ·refine RS.nil (k4 _ _ ?_)
     refine T.cP H rfl (fun _ H=>nomatch H) (fun hc18 H=>?_)
     refine T.skip (k3 _ _ ?_)
     refine T.seq fun _ k6=>T.seq fun _ k7=>T.region (au 3 ?_)
     obtain ⟨g19,H⟩:=gdE H
     refine rp (Pu.subS rfl rfl g19) ?_
     obtain ⟨g20,H⟩:=gdE H
     refine rp (Pu.quoN rfl rfl ⟨g20.1,g20.2,by decide⟩) (rA rfl (RS.nil (k7 _ _ (kq [1,3,4,6,11] ?_))))
     refine T.joinE (σ:=Unit) (γ:=Unit) H Ex.go [] trivial (fun _ _=>[]) (fun _ _=>Sat w [blk b1 [.int .i64 a0_g.w,.int .i64 a0_g.h,.slice p0 a0_g.tiles.length c0] 24,blk b2 [.int .i64 a2_p.x,.int .i64 a2_p.y] 33]) ?_ ?_
     ·rintro ⟨⟩ ⟨⟩ H
      try dsimp only [Ex.then] at H
      refine Cont.kq [] ?_
      refine id (k6 _ _ ?_)
      refine au 2 ?_
      obtain rfl:=sj H
      refine T.rt (Cont.ret1 rfl rfl fun w' s=>?_)
      exact ⟨rfl,s.ext⟩
     intro z21 hz21 HX21 hJ21
     refine T.block ?_
     refine T.loopA (γ:=Unit) hz21 [(1,_),(3,_),(4,_),(6,_)] (fun v22 _=>[(11,.int .i64 v22)]) (fun v22 _=>Sat w [blk b1 [.int .i64 a0_g.w,.int .i64 a0_g.h,.slice p0 a0_g.tiles.length c0] 24,blk b2 [.int .i64 a2_p.x,.int .i64 a2_p.y] 33]) () sb sb (fun w s=>s) ?_
     rintro v22 ⟨⟩ y23 H hd21 KL21 hL21
     try dsimp only [Ex.then] at H
     refine kq [11,1,3,4,6] ?_
     refine T.seq fun _ k9=>T.seq fun _ k10=>T.region (au 4 ?_)
     obtain ⟨g24,H⟩:=gdE H
     refine rp (Pu.addS rfl rfl g24) ?_
     obtain ⟨g25,H⟩:=gdE H
     refine rp (Pu.quoN rfl rfl ⟨g25.1,g25.2,by decide⟩) (au 2 ?_)
     refine RS.joinV 5 71 (.bool (decide ((v22 ≤ ((a2_p.y + a3_r) / 65536))∧(v22 < a0_g.h)))) [(1,_),(3,_),(4,_),(6,_),(11,_)] sb ?_ ?_
     ·refine RS.nil (k10 _ _ ?_)
      refine T.cP H rfl (fun hc28 H=>?_) (fun hc28 H=>?_)
      ·refine T.skip (k9 _ _ ?_)
       refine T.seq fun _ k11=>T.block (T.seq fun _ k12=>T.region (au 3 ?_))
       obtain ⟨g29,H⟩:=gdE H
       refine rp (Pu.subS rfl rfl g29) ?_
       obtain ⟨g30,H⟩:=gdE H
       refine rp (Pu.quoN rfl rfl ⟨g30.1,g30.2,by decide⟩) (rA rfl (RS.nil (k12 _ _ (kq [1,3,4,6,11,12] ?_))))
       refine T.joinE (σ:=Unit) (γ:=Unit) H Ex.go [(1,_),(3,_),(4,_),(6,_),(11,_)] sb (fun _ _=>[]) (fun _ _=>Sat w [blk b1 [.int .i64 a0_g.w,.int .i64 a0_g.h,.slice p0 a0_g.tiles.length c0] 24,blk b2 [.int .i64 a2_p.x,.int .i64 a2_p.y] 33]) ?_ ?_
       ·rintro ⟨⟩ ⟨⟩ H
        try dsimp only [Ex.then] at H
        refine Cont.kq [1,3,4,6,11] ?_
        refine id (k11 _ _ ?_)
        refine T.region (rM rfl ?_)
        obtain ⟨g32,H⟩:=gdE H
        refine rp (Pu.addS rfl rfl g32) (rA rfl (RS.nil (hL21 _ _ (v22 + 1) () H sb sb (fun w s=>s))))
       intro z31 hz31 HX31 hJ31
       refine T.block ?_
       refine T.loopA (γ:=Unit) hz31 [(1,_),(3,_),(4,_),(6,_),(11,_)] (fun v33 _=>[(12,.int .i64 v33)]) (fun v33 _=>Sat w [blk b1 [.int .i64 a0_g.w,.int .i64 a0_g.h,.slice p0 a0_g.tiles.length c0] 24,blk b2 [.int .i64 a2_p.x,.int .i64 a2_p.y] 33]) () sb sb (fun w s=>s) ?_
       rintro v33 ⟨⟩ y34 H hd31 KL31 hL31
       try dsimp only [Ex.then] at H
       refine kq [12,1,3,4,6,11] ?_
       refine T.seq fun _ k13=>T.seq fun _ k14=>T.region (au 4 ?_)
       obtain ⟨g35,H⟩:=gdE H
       refine rp (Pu.addS rfl rfl g35) ?_
       obtain ⟨g36,H⟩:=gdE H
       refine rp (Pu.quoN rfl rfl ⟨g36.1,g36.2,by decide⟩) (au 2 ?_)
       refine RS.joinV 5 91 (.bool (decide ((v33 ≤ ((a2_p.x + a3_r) / 65536))∧(v33 < a0_g.w)))) [(1,_),(3,_),(4,_),(6,_),(11,_),(12,_)] sb ?_ ?_
       ·refine RS.nil (k14 _ _ ?_)
        refine T.cP H rfl (fun hc39 H=>?_) (fun hc39 H=>?_)
        ·refine T.skip (k13 _ _ ?_)
         refine T.seq fun _ k15=>T.block (T.seq fun _ k16=>T.region (au 4 ?_))
         obtain ⟨g40,H⟩:=gdE H
         refine rp (Pu.mulS rfl rfl g40) ?_
         obtain ⟨g41,H⟩:=gdE H
         refine rp (Pu.addS rfl rfl g41) (rA rfl (RS.nil (k16 _ _ (kq [1,3,4,6,11,12,13] ?_))))
         refine T.seq fun _ k17=>T.region (au 2 ?_)
         obtain ⟨g42,H⟩:=gdE H
         obtain ⟨bl43,ol44,rfl⟩:=R_ptr h1 (ne_of_pos (pos_of g42))
         refine rp (Pu.indexSl sl41.h rfl rfl g42) (rq (Qt.ld0 (α:=Bool) (Rd.base h1) ty4.h rfl rfl g42 (by rintro _ _ rfl; rfl)) (au 2 ?_))
         refine RS.joinB H 6 111 (fun b47=>.bool b47) [(1,_),(3,_),(4,_),(6,_),(11,_),(12,_)] sb ?_ ?_
         ·intro b47 H
          refine RS.nil (k17 _ _ ?_)
          refine T.cB H rfl (fun _ H=>nomatch H) (fun hc48 H=>?_)
          refine T.skip (k15 _ _ ?_)
          refine T.region (rM rfl ?_)
          obtain ⟨g49,H⟩:=gdE H
          refine rp (Pu.addS rfl rfl g49) (rA rfl (RS.nil (hL31 _ _ (v33 + 1) () H sb sb (fun w s=>s))))
         intro z50 H hJ46
         refine RS.split 105 rfl (fun hc45=>?_) (fun hc45=>?_)
         ·have H:=ifT hc45 H
          refine au 4 ?_
          obtain ⟨x51,hx51,H⟩:=bindE H
          refine rq (Qt.call (vs:=[_,_,_,_]) ent176 rfl fun w s=>disc_Hits_walk a0_g (v33 + (a0_g.w * v22)) a2_p a3_r w ((Rd.base h0) w s) hx51) (rp (Pu.pickT rfl rfl) ?_)
          obtain rfl:=sj H
          exact hJ46 _ _ sb (fun w s=>s)
         have H:=ifB hc45 H
         refine au 6 ?_
         obtain rfl:=sj H
         exact hJ46 _ _ sb (fun w s=>s)
        obtain rfl:=hd31 _ H
        refine T.xt (hJ31 _ _ () () HX31 sb trivial (fun w s=>s))
       intro hJ38
       refine RS.splitP 86 rfl (fun hc37=>?_) (fun hc37=>?_)
       ·refine au 5 ?_
        exact hJ38 _ _ ⟨dAndT hc37,rfl,rfl,rfl,rfl,rfl,rfl,trivial⟩ (fun w s=>s)
       refine au 5 ?_
       exact hJ38 _ _ ⟨dAndF hc37,rfl,rfl,rfl,rfl,rfl,rfl,trivial⟩ (fun w s=>s)
      obtain rfl:=hd21 _ H
      refine T.xt (hJ21 _ _ () () HX21 trivial trivial (fun w s=>s))
     intro hJ27
     refine RS.splitP 66 rfl (fun hc26=>?_) (fun hc26=>?_)
     ·refine au 5 ?_
      exact hJ27 _ _ ⟨dAndT hc26,rfl,rfl,rfl,rfl,rfl,trivial⟩ (fun w s=>s)
     refine au 5 ?_
     exact hJ27 _ _ ⟨dAndF hc26,rfl,rfl,rfl,rfl,rfl,trivial⟩ (fun w s=>s)
    intro hJ16
    refine RS.splitP 46 rfl (fun hc15=>?_) (fun hc15=>?_)
    ·refine au 7 ?_
     exact hJ16 _ _ ⟨dOrT hc15,rfl,rfl,rfl,rfl,trivial⟩ (fun w s=>s)
    refine au 3 ?_
    refine rp (Pu.addS rfl rfl (g17 hc15)) (au 3 ?_)
    exact hJ16 _ _ ⟨dOrF hc15,rfl,rfl,rfl,rfl,trivial⟩ (fun w s=>s)
   intro hJ13
   refine RS.splitP 39 rfl (fun hc12=>?_) (fun hc12=>?_)
   ·refine au 6 ?_
    exact hJ13 _ _ ⟨dOrT hc12,rfl,rfl,rfl,rfl,rfl,trivial⟩ (fun w s=>s)
   refine au 3 ?_
   refine rp (Pu.subS rfl rfl (g14 hc12)) (au 2 ?_)
   exact hJ13 _ _ ⟨dOrF hc12,rfl,rfl,rfl,rfl,rfl,trivial⟩ (fun w s=>s)
  intro hJ10
  refine RS.splitP 31 rfl (fun hc9=>?_) (fun hc9=>?_)
  ·refine au 7 ?_
   exact hJ10 _ _ ⟨dOrT hc9,rfl,rfl,rfl,rfl,rfl,trivial⟩ (fun w s=>s)
  refine au 3 ?_
  refine rp (Pu.addS rfl rfl (g11 hc9)) (au 3 ?_)
  exact hJ10 _ _ ⟨dOrF hc9,rfl,rfl,rfl,rfl,rfl,trivial⟩ (fun w s=>s)
 intro hJ7
 refine RS.split 24 rfl (fun hc6=>?_) (fun hc6=>?_)
 ·refine au 6 ?_
  exact hJ7 _ _ ⟨dOrT hc6,rfl,rfl,rfl,rfl,rfl,rfl,trivial⟩ (fun w s=>s)
 refine au 3 ?_
 refine rp (Pu.subS rfl rfl (g8 (bne_of hc6))) (au 2 ?_)
 exact hJ7 _ _ ⟨dOrF (bne_of hc6),rfl,rfl,rfl,rfl,rfl,rfl,trivial⟩ (fun w s=>s)
theorem disc_Apart_walk (a0_p:Vec) (a1_r:Int) (a2_q:Vec) (a3_s:Int) (w:World) {r:Bool} (H:disc_Apart a0_p a1_r a2_q a3_s = some r):Calls Tryz.prog 122 #[.agg #[.int .i64 a0_p.x,.int .i64 a0_p.y],.int .i64 a1_r,.agg #[.int .i64 a2_q.x,.int .i64 a2_q.y],.int .i64 a3_s] w fun e w'=>e = .returned (.bool r)∧Ext w w':=by
 unfold disc_Apart at H
 refine te Tryz.func122 (Sat.start w) ?_
 refine T.seq fun _ k1=>T.region (RS.solid (Sd.box (cs:=[_,_]) rfl rfl) rfl rfl fun b1=>RS.solid (Sd.box (cs:=[_,_]) rfl rfl) rfl rfl fun b2=>rA rfl (RS.nil (k1 _ _ (kq [1,3,4,6] ?_))))
 refine T.seq fun _ k2=>dr mixed [1,1,0,1,0,1,0,1,0,0] ?_
 refine au 3 ?_
 obtain ⟨x3,hx3,H⟩:=bindE H
 refine dq rfl (Qt.call (vs:=[_]) ent180 rfl fun w s=>disc_round_walk a1_r w  hx3) (dp rfl (Pu.move rfl) ?_)
 obtain ⟨x4,hx4,H⟩:=bindE H
 refine dq rfl (Qt.call (vs:=[_]) ent180 rfl fun w s=>disc_round_walk a3_s w  hx4) ?_
 obtain ⟨g5,H⟩:=gdE H
 refine dp rfl (Pu.addS rfl rfl g5) ?_
 obtain ⟨x6,hx6,H⟩:=bindE H
 refine dq rfl (Qt.call (vs:=[_,_,_]) ent179 rfl fun w s=>vec_Within_walk a0_p a2_q (x3 + x4) w  hx6) (au 2 ?_)
 refine RD.nil (k2 _ _ (kq [8] ?_))
 obtain rfl:=sj H
 refine T.rt (Cont.ret1 rfl rfl fun w' s=>?_)
 exact ⟨rfl,s.ext⟩
theorem command_units_walk (a0_l:List Int) (w:World) {v0:Value} (h0:R (hpOf w) a0_l [v0]) {r:Bool} (H:command_units a0_l = some r):Calls Tryz.prog 185 #[v0] w fun e w'=>e = .returned (.bool r)∧Ext w w':=by
 have hm0:=R_max h0
 obtain ⟨p0,c0,rfl⟩:=R_form h0
 unfold command_units at H
 refine te Tryz.func185 (Sat.start w) ?_
 refine au 2 ?_
 refine T.seq fun _ k2=>au 4 ?_
 refine T.joinE (σ:=Unit) (γ:=Unit) H Ex.go [(0,_)] sb (fun _ _=>[]) (fun _ _=>Sat w []) ?_ ?_
 ·rintro ⟨⟩ ⟨⟩ H
  try dsimp only [Ex.then] at H
  refine Cont.kq [0] ?_
  refine id (k2 _ _ ?_)
  refine T.seq fun _ k4=>T.region (au 4 ?_)
  refine RS.joinV 4 39 (.bool (decide ((1 ≤ (a0_l.length:Int))∧((a0_l.length:Int) ≤ 64)))) [] trivial ?_ ?_
  ·refine rA rfl (RS.nil (k4 _ _ ?_))
   obtain rfl:=sj H
   refine T.rt (Cont.ret1 rfl rfl fun w' s=>?_)
   exact ⟨rfl,s.ext⟩
  intro hJ3
  refine RS.splitP 35 rfl (fun hc2=>?_) (fun hc2=>?_)
  ·refine au 4 ?_
   exact hJ3 _ _ ⟨dAndT hc2,trivial⟩ (fun w s=>s)
  refine au 4 ?_
  exact hJ3 _ _ ⟨dAndF hc2,trivial⟩ (fun w s=>s)
 intro z1 hz1 HX1 hJ1
 refine T.block ?_
 refine T.loopA (γ:=Unit) hz1 [(0,_),(5,_),(6,_)] (fun v4 _=>[(7,.int .i64 v4)]) (fun v4 _=>Sat w []) () sb sb (fun w s=>s) ?_
 rintro v4 ⟨⟩ y5 H hd1 KL1 hL1
 try dsimp only [Ex.then] at H
 refine kq [7,0,5,6] ?_
 refine au 2 ?_
 refine T.seq fun _ k6=>?_
 refine T.cP H rfl (fun hc6 H=>?_) (fun hc6 H=>?_)
 ·refine T.skip (k6 _ _ ?_)
  refine T.seq fun _ k7=>T.block (T.seq fun _ k8=>T.region (rM rfl ?_))
  obtain ⟨g7,H⟩:=gdE H
  obtain ⟨bl8,ol9,rfl⟩:=R_ptr h0 (ne_of_pos (pos_of g7))
  refine rp (Pu.indexSl sl35.h rfl rfl g7) (rq (Qt.ld0 (α:=Int) (Rd.base h0) ty3.h rfl rfl g7 (by rintro _ _ rfl; rfl)) (au 2 ?_))
  refine RS.nil (k8 _ _ (kq [0,3,4,5,6,7] ?_))
  refine T.seq fun _ k9=>T.region (au 3 ?_)
  refine RS.joinV 3 17 (.bool (decide (((gi a0_l v4) < 1) ∨ (1099511627776 < (gi a0_l v4))))) [(0,_),(3,_),(4,_),(5,_),(6,_),(7,_)] sb ?_ ?_
  ·refine rM rfl ?_
   obtain ⟨g14,H⟩:=gdE H
   obtain ⟨g15,H⟩:=gdE H
   refine RS.joinV 12 30 (.bool (decide ((((gi a0_l v4) < 1) ∨ (1099511627776 < (gi a0_l v4))) ∨ ((0 < v4)∧((gi a0_l v4) ≤ (gi a0_l (v4 - 1))))))) [(0,_),(5,_),(6,_),(7,_)] sb ?_ ?_
   ·refine RS.nil (k9 _ _ ?_)
    refine T.cP H rfl (fun hc16 H=>?_) (fun hc16 H=>?_)
    ·refine kq [] ?_
     refine au 2 ?_
     obtain rfl:=hd1 _ H
     have H:=HX1
     obtain rfl:=sj H
     refine T.rt (Cont.ret1 rfl rfl fun w' s=>?_)
     exact ⟨rfl,s.ext⟩
    refine T.skip (k7 _ _ ?_)
    refine T.region ?_
    obtain ⟨g17,H⟩:=gdE H
    refine rp (Pu.addS rfl rfl g17) (rM rfl (RS.nil (hL1 _ _ (v4 + 1) () H sb sb (fun w s=>s))))
   intro hJ13
   refine RS.splitP 18 rfl (fun hc12=>?_) (fun hc12=>?_)
   ·refine au 12 ?_
    exact hJ13 _ _ ⟨dOrT hc12,rfl,rfl,rfl,rfl,trivial⟩ (fun w s=>s)
   refine au 3 ?_
   refine RS.joinV 8 29 (.bool (decide ((0 < v4)∧((gi a0_l v4) ≤ (gi a0_l (v4 - 1)))))) [(0,_),(3,_),(4,_),(5,_),(6,_),(7,_),(17,_),(18,_),(19,_),(20,_)] sb ?_ ?_
   ·refine rp (Pu.pickF rfl rfl) ?_
    exact hJ13 _ _ ⟨dOrF hc12,rfl,rfl,rfl,rfl,trivial⟩ (fun w s=>s)
   intro hJ19
   refine RS.splitP 21 rfl (fun hc18=>?_) (fun hc18=>?_)
   ·refine au 2 ?_
    refine rp (Pu.subS rfl rfl ((g14 hc12) hc18)) (rp (Pu.indexSl sl35.h rfl rfl ((g15 hc12) hc18)) (rq (Qt.ld0 (α:=Int) (Rd.base h0) ty3.h rfl rfl ((g15 hc12) hc18) (by rintro _ _ rfl; rfl)) (au 3 ?_)))
    exact hJ19 _ _ ⟨dAndT hc18,rfl,rfl,rfl,rfl,rfl,rfl,rfl,rfl,rfl,rfl,trivial⟩ (fun w s=>s)
   refine au 8 ?_
   exact hJ19 _ _ ⟨dAndF hc18,rfl,rfl,rfl,rfl,rfl,rfl,rfl,rfl,rfl,rfl,trivial⟩ (fun w s=>s)
  intro hJ11
  refine RS.splitP 14 rfl (fun hc10=>?_) (fun hc10=>?_)
  ·refine au 3 ?_
   exact hJ11 _ _ ⟨dOrT hc10,rfl,rfl,rfl,rfl,rfl,rfl,trivial⟩ (fun w s=>s)
  refine au 3 ?_
  exact hJ11 _ _ ⟨dOrF hc10,rfl,rfl,rfl,rfl,rfl,rfl,trivial⟩ (fun w s=>s)
 obtain rfl:=hd1 _ H
 refine T.xt (hJ1 _ _ () () HX1 sb trivial (fun w s=>s))
theorem command_within_walk (a0_n:Int) (a1_least:Int) (a2_most:Int) (w:World) {r:Bool} (H:command_within a0_n a1_least a2_most = some r):Calls Tryz.prog 125 #[.int .i64 a0_n,.int .i64 a1_least,.int .i64 a2_most] w fun e w'=>e = .returned (.bool r)∧Ext w w':=by
 unfold command_within at H
 refine te Tryz.func125 (Sat.start w) ?_
 refine au 2 ?_
 refine T.seq fun _ k2=>T.region (au 4 ?_)
 refine RS.joinV 4 14 (.bool (decide ((a1_least ≤ a0_n)∧(a0_n ≤ a2_most)))) [(6,_)] sb ?_ ?_
 ·refine rA rfl (RS.nil (k2 _ _ ?_))
  obtain rfl:=sj H
  refine T.rt (Cont.ret1 rfl rfl fun w' s=>?_)
  exact ⟨rfl,s.ext⟩
 intro hJ2
 refine RS.splitP 10 rfl (fun hc1=>?_) (fun hc1=>?_)
 ·refine au 4 ?_
  exact hJ2 _ _ ⟨dAndT hc1,rfl,trivial⟩ (fun w s=>s)
 refine au 4 ?_
 exact hJ2 _ _ ⟨dAndF hc1,rfl,trivial⟩ (fun w s=>s)
theorem apply_rest_walk (a0_u:Unt) (w:World) {r:Unt} (H:apply_rest a0_u = some r):Calls Tryz.prog 186 #[.agg #[.int .i64 a0_u.id,.int .i64 a0_u.owner,.int .i64 a0_u.kind,.int .i64 a0_u.pos.x,.int .i64 a0_u.pos.y,.int .i64 a0_u.goal,.int .i64 a0_u.next,.int .i64 a0_u.stuck,.int .i64 a0_u.inn,.int .i64 a0_u.state]] w fun e w'=>e = .returned (.agg #[.int .i64 r.id,.int .i64 r.owner,.int .i64 r.kind,.int .i64 r.pos.x,.int .i64 r.pos.y,.int .i64 r.goal,.int .i64 r.next,.int .i64 r.stuck,.int .i64 r.inn,.int .i64 r.state])∧Ext w w':=by
 unfold apply_rest at H
 refine te Tryz.func186 (Sat.start w) ?_
 refine T.seq fun _ k1=>T.region (RS.solid (Sd.box (cs:=[_,_,_,_,_,_,_,_,_,_]) rfl rfl) rfl rfl fun b1=>RS.solid (Sd.alloc zr54 rfl) rfl rfl fun b2=>RS.nil (k1 _ _ ?_))
 refine T.seq fun _ k2=>T.region (au 8 ?_)
 refine RS.nil (k2 _ _ (kq [1,2] ?_))
 refine au 3 ?_
 obtain rfl:=sj H
 refine T.rt (Cont.retC 1 rfl ty54.h rfl rfl rfl fun w' s=>?_)
 exact ⟨rfl,s.ext⟩
end Go.Proofs.YtmngdgclldkcfaaGreat
