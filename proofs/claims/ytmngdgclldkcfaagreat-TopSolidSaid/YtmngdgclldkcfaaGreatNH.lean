/-
  Walks of numbers, places, ways, discs.
-/
import Derived.Test.YtmngdgclldkcfaaGreatRows
import Derived.Test.YtmngdgclldkcfaaGreatJ6
import Derived.Test.YtmngdgclldkcfaaGreatJ7
import Derived.Test.YtmngdgclldkcfaaGreatJ12
import Derived.Test.YtmngdgclldkcfaaGreatFI
set_option linter.unusedVariables false
set_option linter.unusedSimpArgs false
set_option maxRecDepth 20000
set_option maxHeartbeats 4000000
namespace Go.Proofs.YtmngdgclldkcfaaGreat
open Go.Vg
open Enc (R)
theorem kind_May_walk (a0_k:Int) (w:World) {r:Bool} (H:kind_May a0_k = some r):Calls Tryz.prog 114 #[.int .i64 a0_k] w fun e w'=>e = .returned (.bool r)∧Ext w w':=by
 unfold kind_May at H
 refine te Tryz.func114 (Sat.start w) ?_
 refine au 2 ?_
 refine T.seq fun _ k2=>T.region (au 3 ?_)
 refine RS.joinV 3 8 (.bool (decide ((0 ≤ a0_k)∧(a0_k < 4)))) [(2,_)] sb ?_ ?_
 ·refine rA rfl (RS.nil (k2 _ _ ?_))
  obtain rfl:=sj H
  refine T.rt (Cont.ret1 rfl rfl fun w' s=>?_)
  exact ⟨rfl,s.ext⟩
 intro hJ2
 refine RS.splitP 5 rfl (fun hc1=>?_) (fun hc1=>?_)
 ·refine au 3 ?_
  exact hJ2 _ _ ⟨dAndT hc1,rfl,trivial⟩ (fun w s=>s)
 refine au 3 ?_
 exact hJ2 _ _ ⟨dAndF hc1,rfl,trivial⟩ (fun w s=>s)
theorem kind_What_walk (a0_k:Int) (w:World) {r:Knd} (H:kind_What a0_k = some r):Calls Tryz.prog 118 #[.int .i64 a0_k] w fun e w'=>e = .returned (.agg #[.int .i64 r.radius,.int .i64 r.speed,.int .i64 r.cls,.int .i64 r.size,.int .i64 r.room])∧Ext w w':=by
 unfold kind_What at H
 refine te Tryz.func118 (Sat.start w) ?_
 refine T.seq fun _ k1=>T.region (RS.solid (Sd.alloc zr73 rfl) rfl rfl fun b1=>RS.nil (k1 _ _ ?_))
 refine T.seq fun _ k2=>au 2 ?_
 refine T.block (au 3 ?_)
 refine T.cP H rfl (fun hc2 H=>?_) (fun hc2 H=>?_)
 ·refine kq [2] ?_
  refine T.seq fun _ k5=>T.region (rp (Pu.build (cells:=[_,_,_,_,_]) st73 rfl rfl) (RS.solid (Sd.stB (cs':=[_,_,_,_,_]) 0 ty73.h rfl rfl rfl rfl rfl rfl rfl rfl) rfl rfl fun _=>RS.nil (k5 _ _ ?_)))
  obtain rfl:=sj H
  refine T.rt (Cont.retC 0 rfl ty73.h rfl rfl rfl fun w' s=>?_)
  exact ⟨rfl,s.ext⟩
 refine kq [2,3] ?_
 refine au 3 ?_
 refine T.cP H rfl (fun hc3 H=>?_) (fun hc3 H=>?_)
 ·refine kq [2] ?_
  refine T.seq fun _ k7=>T.region (rp (Pu.build (cells:=[_,_,_,_,_]) st73 rfl rfl) (RS.solid (Sd.stB (cs':=[_,_,_,_,_]) 0 ty73.h rfl rfl rfl rfl rfl rfl rfl rfl) rfl rfl fun _=>RS.nil (k7 _ _ ?_)))
  obtain rfl:=sj H
  refine T.rt (Cont.retC 0 rfl ty73.h rfl rfl rfl fun w' s=>?_)
  exact ⟨rfl,s.ext⟩
 refine au 3 ?_
 refine T.cP H rfl (fun _ H=>nomatch H) (fun hc4 H=>?_)
 refine T.skip (k2 _ _ (kq [2] ?_))
 refine T.seq fun _ k10=>T.region (rp (Pu.build (cells:=[_,_,_,_,_]) st73 rfl rfl) (RS.solid (Sd.stB (cs':=[_,_,_,_,_]) 0 ty73.h rfl rfl rfl rfl rfl rfl rfl rfl) rfl rfl fun _=>RS.nil (k10 _ _ ?_)))
 obtain rfl:=sj H
 refine T.rt (Cont.retC 0 rfl ty73.h rfl rfl rfl fun w' s=>?_)
 exact ⟨rfl,s.ext⟩
theorem fixed_Norm_walk (a0_a:Int) (w:World) {r:Int} (H:fixed_Norm a0_a = some r):Calls Tryz.prog 283 #[.int .i64 a0_a] w fun e w'=>e = .returned (.int .i64 r)∧Ext w w':=by
 unfold fixed_Norm at H
 refine te Tryz.func283 (Sat.start w) ?_
 refine au 2 ?_
 refine T.seq fun _ k2=>T.region (rM rfl (rp (Pu.maxI rfl rfl) (rA rfl (RS.nil (k2 _ _ (kq [2] ?_))))))
 obtain rfl:=sj H
 refine T.rt (Cont.ret1 rfl rfl fun w' s=>?_)
 exact ⟨rfl,s.ext⟩
theorem fixed_Abs_walk (a0_a:Int) (w:World) {r:Int × Bool} (H:fixed_Abs a0_a = some r):Calls Tryz.prog 288 #[.int .i64 a0_a] w fun e w'=>e = .returned (.tuple #[.int .u64 r.1,.bool r.2])∧Ext w w':=by
 unfold fixed_Abs at H
 refine te Tryz.func288 (Sat.start w) ?_
 refine au 3 ?_
 refine T.seq fun _ k2=>T.seq fun _ k3=>T.region (rM rfl ?_)
 obtain ⟨x1,hx1,H⟩:=bindE H
 refine rq (Qt.call (vs:=[_]) ent283 rfl fun w s=>fixed_Norm_walk a0_a w  hx1) (rA rfl (RS.nil (k3 _ _ (kq [0] ?_))))
 refine au 3 ?_
 refine T.cP H rfl (fun hc2 H=>?_) (fun hc2 H=>?_)
 ·refine T.seq fun _ k5=>T.region (rM rfl ?_)
  obtain ⟨g3,H⟩:=gdE H
  refine rp (Pu.negS rfl g3) (rp (Pu.convUW us2 ul112 rfl) (au 2 ?_))
  refine RS.nil (k5 _ _ (kq [2,3] ?_))
  obtain rfl:=sj H
  refine T.rt (Cont.ret2 rfl rfl rfl fun w' s=>?_)
  exact ⟨rfl,s.ext⟩
 refine T.skip (k2 _ _ ?_)
 refine T.seq fun _ k6=>T.region (rM rfl (rp (Pu.convUW us2 ul112 rfl) (au 2 ?_)))
 refine RS.nil (k6 _ _ (kq [2,3] ?_))
 obtain rfl:=sj H
 refine T.rt (Cont.ret2 rfl rfl rfl fun w' s=>?_)
 exact ⟨rfl,s.ext⟩
theorem fixed_Neg_walk (a0_a:Int) (w:World) {r:Int} (H:fixed_Neg a0_a = some r):Calls Tryz.prog 285 #[.int .i64 a0_a] w fun e w'=>e = .returned (.int .i64 r)∧Ext w w':=by
 unfold fixed_Neg at H
 refine te Tryz.func285 (Sat.start w) ?_
 refine au 2 ?_
 refine T.seq fun _ k2=>T.region (rM rfl ?_)
 obtain ⟨x1,hx1,H⟩:=bindE H
 refine rq (Qt.call (vs:=[_]) ent283 rfl fun w s=>fixed_Norm_walk a0_a w  hx1) ?_
 obtain ⟨g2,H⟩:=gdE H
 refine rp (Pu.negS rfl g2) (rA rfl (RS.nil (k2 _ _ (kq [2] ?_))))
 obtain rfl:=sj H
 refine T.rt (Cont.ret1 rfl rfl fun w' s=>?_)
 exact ⟨rfl,s.ext⟩
theorem fixed_Add_walk (a0_a:Int) (a1_b:Int) (w:World) {r:Int} (H:fixed_Add a0_a a1_b = some r):Calls Tryz.prog 248 #[.int .i64 a0_a,.int .i64 a1_b] w fun e w'=>e = .returned (.int .i64 r)∧Ext w w':=by
 unfold fixed_Add at H
 refine te Tryz.func248 (Sat.start w) ?_
 refine au 2 ?_
 refine T.seq fun _ k2=>T.region (rM rfl ?_)
 obtain ⟨x1,hx1,H⟩:=bindE H
 refine rq (Qt.call (vs:=[_]) ent283 rfl fun w s=>fixed_Norm_walk a0_a w  hx1) (rM rfl ?_)
 obtain ⟨x2,hx2,H⟩:=bindE H
 refine rq (Qt.call (vs:=[_]) ent283 rfl fun w s=>fixed_Norm_walk a1_b w  hx2) (au 2 ?_)
 refine RS.nil (k2 _ _ (kq [0,1] ?_))
 refine T.seq fun _ k3=>T.block (T.seq fun _ k4=>T.region (au 3 ?_))
 obtain ⟨g5,H⟩:=gdE H
 refine RS.joinV 5 17 (.bool (decide ((0 < x2)∧((9223372036854775807 - x2) < x1)))) [(0,_),(1,_)] sb ?_ ?_
 ·refine rA rfl (RS.nil (k4 _ _ ?_))
  refine T.cP H rfl (fun _ H=>nomatch H) (fun hc6 H=>?_)
  refine T.seq fun _ k6=>T.region (au 3 ?_)
  obtain ⟨g9,H⟩:=gdE H
  refine RS.joinV 5 26 (.bool (decide ((x2 < 0)∧(x1 < ((-9223372036854775807) - x2))))) [(0,_),(1,_)] sb ?_ ?_
  ·refine rA rfl (RS.nil (k6 _ _ ?_))
   refine T.cP H rfl (fun _ H=>nomatch H) (fun hc10 H=>?_)
   refine T.skip (k3 _ _ ?_)
   refine T.seq fun _ k8=>T.region (au 2 ?_)
   obtain ⟨g11,H⟩:=gdE H
   refine rp (Pu.addS rfl rfl g11) (rA rfl (RS.nil (k8 _ _ (kq [4] ?_))))
   obtain rfl:=sj H
   refine T.rt (Cont.ret1 rfl rfl fun w' s=>?_)
   exact ⟨rfl,s.ext⟩
  intro hJ8
  refine RS.splitP 21 rfl (fun hc7=>?_) (fun hc7=>?_)
  ·refine au 2 ?_
   refine rp (Pu.subS rfl rfl (g9 hc7)) (au 2 ?_)
   exact hJ8 _ _ ⟨dAndT hc7,rfl,rfl,trivial⟩ (fun w s=>s)
  refine au 5 ?_
  exact hJ8 _ _ ⟨dAndF hc7,rfl,rfl,trivial⟩ (fun w s=>s)
 intro hJ4
 refine RS.splitP 12 rfl (fun hc3=>?_) (fun hc3=>?_)
 ·refine au 2 ?_
  refine rp (Pu.subS rfl rfl (g5 hc3)) (au 2 ?_)
  exact hJ4 _ _ ⟨dAndT hc3,rfl,rfl,trivial⟩ (fun w s=>s)
 refine au 5 ?_
 exact hJ4 _ _ ⟨dAndF hc3,rfl,rfl,trivial⟩ (fun w s=>s)
theorem fixed_Sub_walk (a0_a:Int) (a1_b:Int) (w:World) {r:Int} (H:fixed_Sub a0_a a1_b = some r):Calls Tryz.prog 247 #[.int .i64 a0_a,.int .i64 a1_b] w fun e w'=>e = .returned (.int .i64 r)∧Ext w w':=by
 unfold fixed_Sub at H
 refine te Tryz.func247 (Sat.start w) ?_
 refine au 2 ?_
 refine T.seq fun _ k2=>T.region (au 2 ?_)
 obtain ⟨x1,hx1,H⟩:=bindE H
 refine rq (Qt.call (vs:=[_]) ent285 rfl fun w s=>fixed_Neg_walk a1_b w  hx1) ?_
 obtain ⟨x2,hx2,H⟩:=bindE H
 refine rq (Qt.call (vs:=[_,_]) ent248 rfl fun w s=>fixed_Add_walk a0_a x1 w  hx2) (rA rfl (RS.nil (k2 _ _ (kq [4] ?_))))
 obtain rfl:=sj H
 refine T.rt (Cont.ret1 rfl rfl fun w' s=>?_)
 exact ⟨rfl,s.ext⟩
theorem bits_Mul64_walk (a0_x:Int) (a1_y:Int) (w:World) {r:Int × Int} (H:bits_Mul64 a0_x a1_y = some r):Calls Tryz.prog 150 #[.int .u64 a0_x,.int .u64 a1_y] w fun e w'=>e = .returned (.tuple #[.int .u64 r.1,.int .u64 r.2])∧Ext w w':=by
 unfold bits_Mul64 at H
 refine te Tryz.func150 (Sat.start w) ?_
 refine au 3 ?_
 refine T.seq fun _ k2=>T.region (rM rfl (rp (Pu.uand rfl rfl) (rA rfl (RS.nil (k2 _ _ (kq [0,1,6] ?_))))))
 refine T.seq fun _ k3=>T.region (rM rfl (rp (Pu.ushr rfl rfl (by decide)) (rA rfl (RS.nil (k3 _ _ ?_)))))
 refine T.seq fun _ k4=>T.region (rM rfl (rp (Pu.uand rfl rfl) (rA rfl (RS.nil (k4 _ _ (kq [0,1,6,7,8] ?_))))))
 refine T.seq fun _ k5=>T.region (rM rfl (rp (Pu.ushr rfl rfl (by decide)) (rA rfl (RS.nil (k5 _ _ ?_)))))
 refine T.seq fun _ k6=>T.region (au 2 ?_)
 refine rp (Pu.umul rfl rfl) (rA rfl (RS.nil (k6 _ _ (kq [0,1,6,7,8,9,10] ?_))))
 refine T.seq fun _ k7=>T.region (au 2 ?_)
 refine rp (Pu.umul rfl rfl) (rM rfl (rp (Pu.ushr rfl rfl (by decide)) (rp (Pu.uadd rfl rfl) (rA rfl (RS.nil (k7 _ _ (kq [0,1,6,7,9,11] ?_)))))))
 refine T.seq fun _ k8=>T.region (rM rfl (rp (Pu.uand rfl rfl) (rA rfl (RS.nil (k8 _ _ ?_)))))
 refine T.seq fun _ k9=>T.region (rM rfl (rp (Pu.ushr rfl rfl (by decide)) (rA rfl (RS.nil (k9 _ _ (kq [0,1,6,7,9,12,13] ?_))))))
 refine T.seq fun _ k10=>T.region (au 3 ?_)
 refine rp (Pu.umul rfl rfl) (rp (Pu.uadd rfl rfl) (rA rfl (RS.nil (k10 _ _ (kq [0,1,7,9,12,13] ?_)))))
 refine T.seq fun _ k11=>T.region (au 2 ?_)
 refine rp (Pu.umul rfl rfl) (rM rfl (rp (Pu.uadd rfl rfl) (rM rfl (rp (Pu.ushr rfl rfl (by decide)) (rp (Pu.uadd rfl rfl) (rA rfl (RS.nil (k11 _ _ (kq [0,1,4] ?_)))))))))
 refine T.seq fun _ k12=>T.region (au 2 ?_)
 refine rp (Pu.umul rfl rfl) (rA rfl (RS.nil (k12 _ _ (kq [4,5] ?_))))
 obtain rfl:=sj H
 refine T.rt (Cont.ret2 rfl rfl rfl fun w' s=>?_)
 exact ⟨rfl,s.ext⟩
theorem bits_Div64_walk (a0_hi:Int) (a1_lo:Int) (a2_y:Int) (w:World) {r:Int × Int} (H:bits_Div64 a0_hi a1_lo a2_y = some r):Calls Tryz.prog 305 #[.int .u64 a0_hi,.int .u64 a1_lo,.int .u64 a2_y] w fun e w'=>e = .returned (.tuple #[.int .u64 r.1,.int .u64 r.2])∧Ext w w':=by
 unfold bits_Div64 at H
 refine te Tryz.func305 (Sat.start w) ?_
 refine au 3 ?_
 refine T.seq fun _ k2=>au 3 ?_
 refine T.joinE (σ:=Unit) (γ:=Unit) H (fun s=>s) [(0,_),(1,_),(2,_)] sb (fun _ _=>[]) (fun _ _=>Sat w []) ?_ ?_
 ·rintro ⟨⟩ ⟨⟩ H
  try dsimp only [Ex.then] at H
  refine Cont.kq [0,1,2] ?_
  refine id (k2 _ _ ?_)
  refine T.seq fun _ k4=>au 4 ?_
  refine T.joinE (σ:=Unit) (γ:=Unit) H (fun s=>s) [(0,_),(1,_),(2,_)] sb (fun _ _=>[]) (fun _ _=>Sat w []) ?_ ?_
  ·rintro ⟨⟩ ⟨⟩ H
   try dsimp only [Ex.then] at H
   refine Cont.kq [0,1,2] ?_
   refine id (k4 _ _ ?_)
   refine T.seq fun _ k6=>au 3 ?_
   refine T.cP H rfl (fun hc3 H=>?_) (fun hc3 H=>?_)
   ·refine kq [1,2] ?_
    refine T.seq fun _ k8=>dr mixed [0,0,0,0,0,0,0,0] ?_
    refine au 2 ?_
    obtain ⟨g4,H⟩:=gdE H
    refine dp rfl (Pu.uquo rfl rfl g4) (au 2 ?_)
    obtain ⟨g5,H⟩:=gdE H
    refine dp rfl (Pu.remN rfl rfl g5) (au 2 ?_)
    refine RD.nil (k8 _ _ (kq [6,7] ?_))
    obtain rfl:=sj H
    refine T.rt (Cont.ret2 rfl rfl rfl fun w' s=>?_)
    exact ⟨rfl,s.ext⟩
   refine T.skip (k6 _ _ ?_)
   refine T.seq fun _ k9=>?_
   exact nomatch H
  intro z2 H HX2 hJ2
  refine T.cP H rfl (fun _ H=>nomatch H) (fun hc6 H=>?_)
  obtain rfl:=sj H
  refine T.skip (hJ2 _ _ () () HX2 sb trivial (fun w s=>s))
 intro z1 H HX1 hJ1
 refine T.cP H rfl (fun _ H=>nomatch H) (fun hc7 H=>?_)
 obtain rfl:=sj H
 refine T.skip (hJ1 _ _ () () HX1 sb trivial (fun w s=>s))
theorem fixed_Square_walk (a0_a:Int) (w:World) {r:Wid} (H:fixed_Square a0_a = some r):Calls Tryz.prog 253 #[.int .u64 a0_a] w fun e w'=>e = .returned (.agg #[.int .u64 r.hi,.int .u64 r.lo])∧Ext w w':=by
 unfold fixed_Square at H
 refine te Tryz.func253 (Sat.start w) ?_
 refine T.seq fun _ k1=>T.region (RS.solid (Sd.alloc zr328 rfl) rfl rfl fun b1=>RS.nil (k1 _ _ ?_))
 refine T.seq fun _ k2=>T.region (au 2 ?_)
 obtain ⟨x2,hx2,H⟩:=bindE H
 refine rq (Qt.call (vs:=[_,_]) ent150 rfl fun w s=>bits_Mul64_walk a0_a a0_a w  hx2) (au 5 ?_)
 refine RS.nil (k2 _ _ (kq [2,3,4] ?_))
 refine T.seq fun _ k3=>T.region (au 2 ?_)
 refine rp (Pu.build (cells:=[_,_]) st328 rfl rfl) (RS.solid (Sd.stB (cs':=[_,_]) 0 ty328.h rfl rfl rfl rfl rfl rfl rfl rfl) rfl rfl fun _=>RS.nil (k3 _ _ (kq [2] ?_)))
 obtain rfl:=sj H
 refine T.rt (Cont.retC 0 rfl ty328.h rfl rfl rfl fun w' s=>?_)
 exact ⟨rfl,s.ext⟩
theorem fixed_Wide_Plus_walk (a0_w:Wid) (a1_v:Wid) (w:World) {r:Wid} (H:fixed_Wide_Plus a0_w a1_v = some r):Calls Tryz.prog 289 #[.agg #[.int .u64 a0_w.hi,.int .u64 a0_w.lo],.agg #[.int .u64 a1_v.hi,.int .u64 a1_v.lo]] w fun e w'=>e = .returned (.agg #[.int .u64 r.hi,.int .u64 r.lo])∧Ext w w':=by
 unfold fixed_Wide_Plus at H
 refine te Tryz.func289 (Sat.start w) ?_
 refine T.seq fun _ k1=>T.region (RS.solid (Sd.box (cs:=[_,_]) rfl rfl) rfl rfl fun b1=>RS.solid (Sd.box (cs:=[_,_]) rfl rfl) rfl rfl fun b2=>RS.solid (Sd.alloc zr328 rfl) rfl rfl fun b3=>RS.nil (k1 _ _ ?_))
 refine T.seq fun _ k2=>T.region (au 4 ?_)
 obtain ⟨g4,H⟩:=gdE H
 refine rp (Pu.add64 Tryz.func321 isadd321 rfl rfl rfl g4) (au 5 ?_)
 refine RS.nil (k2 _ _ (kq [2,3,4,5,6] ?_))
 refine T.seq fun _ k3=>T.region (au 5 ?_)
 obtain ⟨g5,H⟩:=gdE H
 refine rp (Pu.add64 Tryz.func321 isadd321 rfl rfl rfl g5) (au 5 ?_)
 refine RS.nil (k3 _ _ (kq [4,5,7] ?_))
 refine T.seq fun _ k4=>T.region (au 2 ?_)
 refine rp (Pu.build (cells:=[_,_]) st328 rfl rfl) (RS.solid (Sd.stB (cs':=[_,_]) 2 ty328.h rfl rfl rfl rfl rfl rfl rfl rfl) rfl rfl fun _=>RS.nil (k4 _ _ (kq [4] ?_)))
 obtain rfl:=sj H
 refine T.rt (Cont.retC 2 rfl ty328.h rfl rfl rfl fun w' s=>?_)
 exact ⟨rfl,s.ext⟩
theorem fixed_Wide_Below_walk (a0_w:Wid) (a1_v:Wid) (w:World) {r:Bool} (H:fixed_Wide_Below a0_w a1_v = some r):Calls Tryz.prog 252 #[.agg #[.int .u64 a0_w.hi,.int .u64 a0_w.lo],.agg #[.int .u64 a1_v.hi,.int .u64 a1_v.lo]] w fun e w'=>e = .returned (.bool r)∧Ext w w':=by
 unfold fixed_Wide_Below at H
 refine te Tryz.func252 (Sat.start w) ?_
 refine T.seq fun _ k1=>T.region (RS.solid (Sd.box (cs:=[_,_]) rfl rfl) rfl rfl fun b1=>RS.solid (Sd.box (cs:=[_,_]) rfl rfl) rfl rfl fun b2=>rA rfl (RS.nil (k1 _ _ (kq [2,3] ?_))))
 refine T.seq fun _ k2=>T.region (au 6 ?_)
 refine RS.joinV 13 23 (.bool (decide ((a0_w.hi < a1_v.hi) ∨ ((a0_w.hi = a1_v.hi)∧(a0_w.lo < a1_v.lo))))) [] trivial ?_ ?_
 ·refine rA rfl (RS.nil (k2 _ _ ?_))
  obtain rfl:=sj H
  refine T.rt (Cont.ret1 rfl rfl fun w' s=>?_)
  exact ⟨rfl,s.ext⟩
 intro hJ4
 refine RS.splitP 10 rfl (fun hc3=>?_) (fun hc3=>?_)
 ·refine au 13 ?_
  exact hJ4 _ _ ⟨dOrT hc3,trivial⟩ (fun w s=>s)
 refine au 6 ?_
 refine RS.joinV 6 22 (.bool (decide ((a0_w.hi = a1_v.hi)∧(a0_w.lo < a1_v.lo)))) [(2,_),(3,_),(5,_),(6,_),(7,_),(8,_),(9,_),(10,_),(11,_),(12,_),(13,_),(14,_),(15,_)] sb ?_ ?_
 ·refine rp (Pu.pickF rfl rfl) ?_
  exact hJ4 _ _ ⟨dOrF hc3,trivial⟩ (fun w s=>s)
 intro hJ6
 refine RS.splitP 16 rfl (fun hc5=>?_) (fun hc5=>?_)
 ·refine au 6 ?_
  exact hJ6 _ _ ⟨dAndT hc5,rfl,rfl,rfl,rfl,rfl,rfl,rfl,rfl,rfl,rfl,rfl,rfl,rfl,trivial⟩ (fun w s=>s)
 refine au 6 ?_
 exact hJ6 _ _ ⟨dAndF hc5,rfl,rfl,rfl,rfl,rfl,rfl,rfl,rfl,rfl,rfl,rfl,rfl,rfl,trivial⟩ (fun w s=>s)
theorem fixed_Wide_Root_walk (a0_w:Wid) (w:World) {r:Int} (H:fixed_Wide_Root a0_w = some r):Calls Tryz.prog 295 #[.agg #[.int .u64 a0_w.hi,.int .u64 a0_w.lo]] w fun e w'=>e = .returned (.int .i64 r)∧Ext w w':=by
 unfold fixed_Wide_Root at H
 refine te Tryz.func295 (Sat.start w) ?_
 refine T.seq fun _ k1=>T.region (RS.solid (Sd.box (cs:=[_,_]) rfl rfl) rfl rfl fun b1=>rA rfl (RS.nil (k1 _ _ ?_)))
 refine au 2 ?_
 refine T.seq fun _ k3=>au 2 ?_
 refine T.joinE (σ:=Int) (γ:=Unit) H (fun s=>s) [] trivial (fun v3 _=>[(3,.int .u64 v3)]) (fun v3 _=>Sat w [blk b1 [.int .u64 a0_w.hi,.int .u64 a0_w.lo] 328]) ?_ ?_
 ·rintro v3 ⟨⟩ H
  try dsimp only [Ex.then] at H
  refine Cont.kq [3] ?_
  refine id (k3 _ _ ?_)
  refine T.seq fun _ k5=>T.region (rM rfl ?_)
  obtain ⟨g4,H⟩:=gdE H
  refine rp (Pu.convS us112 ul2 rfl g4) (rA rfl (RS.nil (k5 _ _ (kq [2] ?_))))
  obtain rfl:=sj H
  refine T.rt (Cont.ret1 rfl rfl fun w' s=>?_)
  exact ⟨rfl,s.ext⟩
 intro z2 hz2 HX2 hJ2
 refine T.block ?_
 refine T.loopA (γ:=Unit) hz2 [(1,_)] (fun (v5,v6) _=>[(3,.int .u64 v5),(4,.int .i64 v6)]) (fun (v5,v6) _=>Sat w [blk b1 [.int .u64 a0_w.hi,.int .u64 a0_w.lo] 328]) () sb sb (fun w s=>s) ?_
 rintro ⟨v5,v6⟩ ⟨⟩ y7 H hd2 KL2 hL2
 try dsimp only [Ex.then] at H
 refine kq [3,4,1] ?_
 refine T.seq fun _ k6=>au 3 ?_
 refine T.cP H rfl (fun hc8 H=>?_) (fun hc8 H=>?_)
 ·refine T.skip (k6 _ _ ?_)
  refine T.seq fun _ k8=>T.block (T.seq fun _ k9=>T.region (au 2 ?_))
  obtain ⟨g9,H⟩:=gdE H
  refine rp (Pu.ushl rfl rfl g9) (rp (Pu.uor rfl rfl) (rA rfl (RS.nil (k9 _ _ (kq [1,3,4,5] ?_)))))
  refine T.seq fun _ k10=>dr mixed [1,0,1,1,0] ?_
  refine au 2 ?_
  obtain ⟨x10,hx10,H⟩:=bindE H
  refine dq rfl (Qt.call (vs:=[_]) ent253 rfl fun w s=>fixed_Square_walk (uor v5 (uw ((1:Int) * 2 ^ v6.toNat))) w  hx10) ?_
  obtain ⟨x11,hx11,H⟩:=bindE H
  refine dq rfl (Qt.call (vs:=[_,_]) ent252 rfl fun w s=>fixed_Wide_Below_walk a0_w x10 w  hx11) (dp rfl (Pu.not rfl) (RD.nil (k10 _ _ ?_)))
  refine T.cB H rfl (fun hc12 H=>?_) (fun hc12 H=>?_)
  ·refine kq [1,4,5] ?_
   refine T.region (au 2 ?_)
   refine RS.nil (k8 _ _ ?_)
   refine T.region (rM rfl ?_)
   obtain ⟨g13,H⟩:=gdE H
   refine rp (Pu.subS rfl rfl g13) (rA rfl (RS.nil (hL2 _ _ ((uor v5 (uw ((1:Int) * 2 ^ v6.toNat))),(v6 - 1)) () H sb sb (fun w s=>s))))
  refine T.skip (k8 _ _ (kq [1,3,4] ?_))
  refine T.region (rM rfl ?_)
  obtain ⟨g14,H⟩:=gdE H
  refine rp (Pu.subS rfl rfl g14) (rA rfl (RS.nil (hL2 _ _ (v5,(v6 - 1)) () H sb sb (fun w s=>s))))
 obtain rfl:=hd2 _ H
 refine T.xt (hJ2 _ _ v5 () HX2 trivial sb (fun w s=>s))
theorem vec_Norm_walk (a0_v:Vec) (w:World) {r:Vec} (H:vec_Norm a0_v = some r):Calls Tryz.prog 267 #[.agg #[.int .i64 a0_v.x,.int .i64 a0_v.y]] w fun e w'=>e = .returned (.agg #[.int .i64 r.x,.int .i64 r.y])∧Ext w w':=by
 unfold vec_Norm at H
 refine te Tryz.func267 (Sat.start w) ?_
 refine T.seq fun _ k1=>T.region (RS.solid (Sd.box (cs:=[_,_]) rfl rfl) rfl rfl fun b1=>RS.solid (Sd.alloc zr33 rfl) rfl rfl fun b2=>RS.nil (k1 _ _ ?_))
 refine T.seq fun _ k2=>dr mixed [0,1,1,0,1,1,0,4] ?_
 refine au 2 ?_
 obtain ⟨x3,hx3,H⟩:=bindE H
 refine dq rfl (Qt.call (vs:=[_]) ent283 rfl fun w s=>fixed_Norm_walk a0_v.x w  hx3) (au 2 ?_)
 obtain ⟨x4,hx4,H⟩:=bindE H
 refine dq rfl (Qt.call (vs:=[_]) ent283 rfl fun w s=>fixed_Norm_walk a0_v.y w  hx4) (dp rfl (Pu.build (cells:=[_,_]) st33 rfl rfl) (RD.solid rfl (.inr rfl) rfl rfl (Sd.stB (cs':=[_,_]) 1 ty33.h rfl rfl rfl rfl rfl rfl rfl rfl) (fun _=>ClE.sat _ _) (fun _ _ _=>trivial) (fun h=>nomatch h) fun _=>?_))
 refine RD.nil (k2 _ _ (kq [2] ?_))
 obtain rfl:=sj H
 refine T.rt (Cont.retC 1 rfl ty33.h rfl rfl rfl fun w' s=>?_)
 exact ⟨rfl,s.ext⟩
theorem vec_Add_walk (a0_a:Vec) (a1_b:Vec) (w:World) {r:Vec} (H:vec_Add a0_a a1_b = some r):Calls Tryz.prog 207 #[.agg #[.int .i64 a0_a.x,.int .i64 a0_a.y],.agg #[.int .i64 a1_b.x,.int .i64 a1_b.y]] w fun e w'=>e = .returned (.agg #[.int .i64 r.x,.int .i64 r.y])∧Ext w w':=by
 unfold vec_Add at H
 refine te Tryz.func207 (Sat.start w) ?_
 refine T.seq fun _ k1=>T.region (RS.solid (Sd.box (cs:=[_,_]) rfl rfl) rfl rfl fun b1=>RS.solid (Sd.box (cs:=[_,_]) rfl rfl) rfl rfl fun b2=>RS.solid (Sd.alloc zr33 rfl) rfl rfl fun b3=>RS.nil (k1 _ _ ?_))
 refine T.seq fun _ k2=>dr mixed [0,1,0,1,1,0,1,0,1,1,0,4] ?_
 refine au 4 ?_
 obtain ⟨x4,hx4,H⟩:=bindE H
 refine dq rfl (Qt.call (vs:=[_,_]) ent248 rfl fun w s=>fixed_Add_walk a0_a.x a1_b.x w  hx4) (au 4 ?_)
 obtain ⟨x5,hx5,H⟩:=bindE H
 refine dq rfl (Qt.call (vs:=[_,_]) ent248 rfl fun w s=>fixed_Add_walk a0_a.y a1_b.y w  hx5) (dp rfl (Pu.build (cells:=[_,_]) st33 rfl rfl) (RD.solid rfl (.inr rfl) rfl rfl (Sd.stB (cs':=[_,_]) 2 ty33.h rfl rfl rfl rfl rfl rfl rfl rfl) (fun _=>ClE.sat _ _) (fun _ _ _=>trivial) (fun h=>nomatch h) fun _=>?_))
 refine RD.nil (k2 _ _ (kq [4] ?_))
 obtain rfl:=sj H
 refine T.rt (Cont.retC 2 rfl ty33.h rfl rfl rfl fun w' s=>?_)
 exact ⟨rfl,s.ext⟩
theorem vec_Sub_walk (a0_a:Vec) (a1_b:Vec) (w:World) {r:Vec} (H:vec_Sub a0_a a1_b = some r):Calls Tryz.prog 251 #[.agg #[.int .i64 a0_a.x,.int .i64 a0_a.y],.agg #[.int .i64 a1_b.x,.int .i64 a1_b.y]] w fun e w'=>e = .returned (.agg #[.int .i64 r.x,.int .i64 r.y])∧Ext w w':=by
 unfold vec_Sub at H
 refine te Tryz.func251 (Sat.start w) ?_
 refine T.seq fun _ k1=>T.region (RS.solid (Sd.box (cs:=[_,_]) rfl rfl) rfl rfl fun b1=>RS.solid (Sd.box (cs:=[_,_]) rfl rfl) rfl rfl fun b2=>RS.solid (Sd.alloc zr33 rfl) rfl rfl fun b3=>RS.nil (k1 _ _ ?_))
 refine T.seq fun _ k2=>dr mixed [0,1,0,1,1,0,1,0,1,1,0,4] ?_
 refine au 4 ?_
 obtain ⟨x4,hx4,H⟩:=bindE H
 refine dq rfl (Qt.call (vs:=[_,_]) ent247 rfl fun w s=>fixed_Sub_walk a0_a.x a1_b.x w  hx4) (au 4 ?_)
 obtain ⟨x5,hx5,H⟩:=bindE H
 refine dq rfl (Qt.call (vs:=[_,_]) ent247 rfl fun w s=>fixed_Sub_walk a0_a.y a1_b.y w  hx5) (dp rfl (Pu.build (cells:=[_,_]) st33 rfl rfl) (RD.solid rfl (.inr rfl) rfl rfl (Sd.stB (cs':=[_,_]) 2 ty33.h rfl rfl rfl rfl rfl rfl rfl rfl) (fun _=>ClE.sat _ _) (fun _ _ _=>trivial) (fun h=>nomatch h) fun _=>?_))
 refine RD.nil (k2 _ _ (kq [4] ?_))
 obtain rfl:=sj H
 refine T.rt (Cont.retC 2 rfl ty33.h rfl rfl rfl fun w' s=>?_)
 exact ⟨rfl,s.ext⟩
theorem vec_square_walk (a0_v:Vec) (w:World) {r:Wid} (H:vec_square a0_v = some r):Calls Tryz.prog 250 #[.agg #[.int .i64 a0_v.x,.int .i64 a0_v.y]] w fun e w'=>e = .returned (.agg #[.int .u64 r.hi,.int .u64 r.lo])∧Ext w w':=by
 unfold vec_square at H
 refine te Tryz.func250 (Sat.start w) ?_
 refine T.seq fun _ k1=>T.region (RS.solid (Sd.box (cs:=[_,_]) rfl rfl) rfl rfl fun b1=>RS.solid (Sd.alloc zr328 rfl) rfl rfl fun b2=>RS.nil (k1 _ _ ?_))
 refine T.seq fun _ k2=>T.region (au 2 ?_)
 obtain ⟨x3,hx3,H⟩:=bindE H
 refine rq (Qt.call (vs:=[_]) ent288 rfl fun w s=>fixed_Abs_walk a0_v.x w  hx3) (au 5 ?_)
 refine RS.nil (k2 _ _ (kq [1,2,3] ?_))
 refine T.seq fun _ k3=>T.region (au 2 ?_)
 obtain ⟨x4,hx4,H⟩:=bindE H
 refine rq (Qt.call (vs:=[_]) ent288 rfl fun w s=>fixed_Abs_walk a0_v.y w  hx4) (au 5 ?_)
 refine RS.nil (k3 _ _ (kq [2,3,5] ?_))
 refine T.seq fun _ k4=>T.region (rM rfl ?_)
 obtain ⟨x5,hx5,H⟩:=bindE H
 refine rq (Qt.call (vs:=[_]) ent253 rfl fun w s=>fixed_Square_walk x3.1 w  hx5) (rM rfl ?_)
 obtain ⟨x6,hx6,H⟩:=bindE H
 refine rq (Qt.call (vs:=[_]) ent253 rfl fun w s=>fixed_Square_walk x4.1 w  hx6) ?_
 obtain ⟨x7,hx7,H⟩:=bindE H
 refine rq (Qt.call (vs:=[_,_]) ent289 rfl fun w s=>fixed_Wide_Plus_walk x5 x6 w  hx7) (RS.solid (Sd.stB (cs':=[_,_]) 1 ty328.h rfl rfl rfl rfl rfl rfl rfl rfl) rfl rfl fun _=>RS.nil (k4 _ _ (kq [2] ?_)))
 obtain rfl:=sj H
 refine T.rt (Cont.retC 1 rfl ty328.h rfl rfl rfl fun w' s=>?_)
 exact ⟨rfl,s.ext⟩
theorem vec_Len_walk (a0_v:Vec) (w:World) {r:Int} (H:vec_Len a0_v = some r):Calls Tryz.prog 261 #[.agg #[.int .i64 a0_v.x,.int .i64 a0_v.y]] w fun e w'=>e = .returned (.int .i64 r)∧Ext w w':=by
 unfold vec_Len at H
 refine te Tryz.func261 (Sat.start w) ?_
 refine T.seq fun _ k1=>T.region (RS.solid (Sd.box (cs:=[_,_]) rfl rfl) rfl rfl fun b1=>rA rfl (RS.nil (k1 _ _ ?_)))
 refine T.seq fun _ k2=>T.region (rq (Qt.ldBA (us:=[_,_]) 0 ty33.h rfl rfl rfl rfl) ?_)
 obtain ⟨x2,hx2,H⟩:=bindE H
 refine rq (Qt.call (vs:=[_]) ent250 rfl fun w s=>vec_square_walk a0_v w  hx2) ?_
 obtain ⟨x3,hx3,H⟩:=bindE H
 refine rq (Qt.call (vs:=[_]) ent295 rfl fun w s=>fixed_Wide_Root_walk x2 w  hx3) (rA rfl (RS.nil (k2 _ _ (kq [2] ?_))))
 obtain rfl:=sj H
 refine T.rt (Cont.ret1 rfl rfl fun w' s=>?_)
 exact ⟨rfl,s.ext⟩
theorem vec_Within_walk (a0_a:Vec) (a1_b:Vec) (a2_r:Int) (w:World) {r:Bool} (H:vec_Within a0_a a1_b a2_r = some r):Calls Tryz.prog 179 #[.agg #[.int .i64 a0_a.x,.int .i64 a0_a.y],.agg #[.int .i64 a1_b.x,.int .i64 a1_b.y],.int .i64 a2_r] w fun e w'=>e = .returned (.bool r)∧Ext w w':=by
 unfold vec_Within at H
 refine te Tryz.func179 (Sat.start w) ?_
 refine T.seq fun _ k1=>T.region (RS.solid (Sd.box (cs:=[_,_]) rfl rfl) rfl rfl fun b1=>RS.solid (Sd.box (cs:=[_,_]) rfl rfl) rfl rfl fun b2=>rA rfl (RS.nil (k1 _ _ (kq [2,3,4] ?_))))
 refine T.seq fun _ k2=>au 3 ?_
 refine T.cP H rfl (fun _ H=>nomatch H) (fun hc3 H=>?_)
 refine T.skip (k2 _ _ ?_)
 refine T.seq fun _ k5=>T.region (au 2 ?_)
 obtain ⟨x4,hx4,H⟩:=bindE H
 refine rq (Qt.call (vs:=[_,_]) ent251 rfl fun w s=>vec_Sub_walk a0_a a1_b w  hx4) ?_
 obtain ⟨x5,hx5,H⟩:=bindE H
 refine rq (Qt.call (vs:=[_]) ent250 rfl fun w s=>vec_square_walk x4 w  hx5) (rM rfl (rp (Pu.convUW us2 ul112 rfl) ?_))
 obtain ⟨x6,hx6,H⟩:=bindE H
 refine rq (Qt.call (vs:=[_]) ent253 rfl fun w s=>fixed_Square_walk (a2_r % 18446744073709551616) w  hx6) ?_
 obtain ⟨x7,hx7,H⟩:=bindE H
 refine rq (Qt.call (vs:=[_,_]) ent252 rfl fun w s=>fixed_Wide_Below_walk x5 x6 w  hx7) (rA rfl (RS.nil (k5 _ _ (kq [6] ?_))))
 obtain rfl:=sj H
 refine T.rt (Cont.ret1 rfl rfl fun w' s=>?_)
 exact ⟨rfl,s.ext⟩
theorem vec_part_walk (a0_c:Int) (a1_most:Int) (a2_long:Int) (w:World) {r:Int} (H:vec_part a0_c a1_most a2_long = some r):Calls Tryz.prog 268 #[.int .i64 a0_c,.int .i64 a1_most,.int .i64 a2_long] w fun e w'=>e = .returned (.int .i64 r)∧Ext w w':=by
 unfold vec_part at H
 refine te Tryz.func268 (Sat.start w) ?_
 refine au 2 ?_
 refine T.seq fun _ k2=>T.region (rM rfl ?_)
 obtain ⟨x1,hx1,H⟩:=bindE H
 refine rq (Qt.call (vs:=[_]) ent288 rfl fun w s=>fixed_Abs_walk a0_c w  hx1) (au 5 ?_)
 refine RS.nil (k2 _ _ (kq [1,2,7,8] ?_))
 refine T.seq fun _ k3=>T.region (au 2 ?_)
 refine rp (Pu.convUW us2 ul112 rfl) ?_
 obtain ⟨x2,hx2,H⟩:=bindE H
 refine rq (Qt.call (vs:=[_,_]) ent150 rfl fun w s=>bits_Mul64_walk x1.1 (a1_most % 18446744073709551616) w  hx2) (au 5 ?_)
 refine RS.nil (k3 _ _ (kq [2,8,9,10] ?_))
 refine T.seq fun _ k4=>T.region (au 3 ?_)
 refine rp (Pu.convUW us2 ul112 rfl) ?_
 obtain ⟨x3,hx3,H⟩:=bindE H
 refine rq (Qt.call (vs:=[_,_,_]) ent305 rfl fun w s=>bits_Div64_walk x2.1 x2.2 (a2_long % 18446744073709551616) w  hx3) (au 5 ?_)
 refine RS.nil (k4 _ _ (kq [8,11] ?_))
 refine T.seq fun _ k5=>au 2 ?_
 refine T.cB H rfl (fun _ H=>nomatch H) (fun hc4 H=>?_)
 refine T.skip (k5 _ _ ?_)
 refine T.seq fun _ k8=>T.region (rM rfl ?_)
 obtain ⟨g5,H⟩:=gdE H
 refine rp (Pu.convS us112 ul2 rfl g5) (rA rfl (RS.nil (k8 _ _ (kq [6] ?_))))
 obtain rfl:=sj H
 refine T.rt (Cont.ret1 rfl rfl fun w' s=>?_)
 exact ⟨rfl,s.ext⟩
theorem vec_Clamp_walk (a0_v:Vec) (a1_most:Int) (w:World) {r:Vec} (H:vec_Clamp a0_v a1_most = some r):Calls Tryz.prog 210 #[.agg #[.int .i64 a0_v.x,.int .i64 a0_v.y],.int .i64 a1_most] w fun e w'=>e = .returned (.agg #[.int .i64 r.x,.int .i64 r.y])∧Ext w w':=by
 unfold vec_Clamp at H
 refine te Tryz.func210 (Sat.start w) ?_
 refine T.seq fun _ k1=>T.region (RS.solid (Sd.box (cs:=[_,_]) rfl rfl) rfl rfl fun b1=>RS.solid (Sd.alloc zr33 rfl) rfl rfl fun b2=>RS.nil (k1 _ _ ?_))
 refine T.seq fun _ k2=>T.region (rM rfl (rp (Pu.maxI rfl rfl) (rA rfl (RS.nil (k2 _ _ (kq [1,2,4] ?_))))))
 refine T.seq fun _ k3=>T.region (rq (Qt.ldBA (us:=[_,_]) 0 ty33.h rfl rfl rfl rfl) ?_)
 obtain ⟨x3,hx3,H⟩:=bindE H
 refine rq (Qt.call (vs:=[_]) ent267 rfl fun w s=>vec_Norm_walk a0_v w  hx3) (RS.solid (Sd.stB (cs':=[_,_]) 0 ty33.h rfl rfl rfl rfl rfl rfl rfl rfl) rfl rfl fun _=>RS.nil (k3 _ _ ?_))
 refine T.seq fun _ k4=>T.region (rq (Qt.ldBA (us:=[_,_]) 0 ty33.h rfl rfl rfl rfl) ?_)
 obtain ⟨x4,hx4,H⟩:=bindE H
 refine rq (Qt.call (vs:=[_]) ent261 rfl fun w s=>vec_Len_walk x3 w  hx4) (rA rfl (RS.nil (k4 _ _ (kq [1,2,4,5] ?_))))
 refine T.seq fun _ k5=>au 4 ?_
 refine T.cP H rfl (fun hc5 H=>?_) (fun hc5 H=>?_)
 ·refine kq [2,4] ?_
  refine au 3 ?_
  obtain rfl:=sj H
  refine T.rt (Cont.retC 1 rfl ty33.h rfl rfl rfl fun w' s=>?_)
  exact ⟨rfl,s.ext⟩
 refine T.skip (k5 _ _ (kq [1,2,4,5] ?_))
 refine T.seq fun _ k8=>dr mixed [0,1,0,0,1,0,1,0,0,1,0,4] ?_
 refine au 4 ?_
 obtain ⟨x6,hx6,H⟩:=bindE H
 refine dq rfl (Qt.call (vs:=[_,_,_]) ent268 rfl fun w s=>vec_part_walk x3.x (max a1_most 0) x4 w  hx6) (au 4 ?_)
 obtain ⟨x7,hx7,H⟩:=bindE H
 refine dq rfl (Qt.call (vs:=[_,_,_]) ent268 rfl fun w s=>vec_part_walk x3.y (max a1_most 0) x4 w  hx7) (dp rfl (Pu.build (cells:=[_,_]) st33 rfl rfl) (RD.solid rfl (.inr rfl) rfl rfl (Sd.stB (cs':=[_,_]) 1 ty33.h rfl rfl rfl rfl rfl rfl rfl rfl) (fun _=>ClE.sat _ _) (fun _ _ _=>trivial) (fun h=>nomatch h) fun _=>?_))
 refine RD.nil (k8 _ _ (kq [4] ?_))
 obtain rfl:=sj H
 refine T.rt (Cont.retC 1 rfl ty33.h rfl rfl rfl fun w' s=>?_)
 exact ⟨rfl,s.ext⟩
theorem disc_Place_walk (a0_p:Vec) (w:World) {r:Bool} (H:disc_Place a0_p = some r):Calls Tryz.prog 184 #[.agg #[.int .i64 a0_p.x,.int .i64 a0_p.y]] w fun e w'=>e = .returned (.bool r)∧Ext w w':=by
 unfold disc_Place at H
 refine te Tryz.func184 (Sat.start w) ?_
 refine T.seq fun _ k1=>T.region (RS.solid (Sd.box (cs:=[_,_]) rfl rfl) rfl rfl fun b1=>rA rfl (RS.nil (k1 _ _ ?_)))
 refine T.seq fun _ k2=>T.region (au 4 ?_)
 refine RS.joinV 4 10 (.bool (decide (((-1099511627776) ≤ a0_p.x)∧(a0_p.x ≤ 1099511627776)))) [(1,_),(2,_)] sb ?_ ?_
 ·refine rM rfl ?_
  refine RS.joinV 4 15 (.bool (decide ((((-1099511627776) ≤ a0_p.x)∧(a0_p.x ≤ 1099511627776))∧((-1099511627776) ≤ a0_p.y)))) [(1,_),(2,_)] sb ?_ ?_
  ·refine rM rfl ?_
   refine RS.joinV 4 20 (.bool (decide (((((-1099511627776) ≤ a0_p.x)∧(a0_p.x ≤ 1099511627776))∧((-1099511627776) ≤ a0_p.y))∧(a0_p.y ≤ 1099511627776)))) [(2,_)] sb ?_ ?_
   ·refine rA rfl (RS.nil (k2 _ _ ?_))
    obtain rfl:=sj H
    refine T.rt (Cont.ret1 rfl rfl fun w' s=>?_)
    exact ⟨rfl,s.ext⟩
   intro hJ7
   refine RS.splitP 16 rfl (fun hc6=>?_) (fun hc6=>?_)
   ·refine au 4 ?_
    exact hJ7 _ _ ⟨dAndT hc6,rfl,trivial⟩ (fun w s=>s)
   refine au 4 ?_
   exact hJ7 _ _ ⟨dAndF hc6,rfl,trivial⟩ (fun w s=>s)
  intro hJ5
  refine RS.splitP 11 rfl (fun hc4=>?_) (fun hc4=>?_)
  ·refine au 4 ?_
   exact hJ5 _ _ ⟨dAndT hc4,rfl,rfl,trivial⟩ (fun w s=>s)
  refine au 4 ?_
  exact hJ5 _ _ ⟨dAndF hc4,rfl,rfl,trivial⟩ (fun w s=>s)
 intro hJ3
 refine RS.splitP 6 rfl (fun hc2=>?_) (fun hc2=>?_)
 ·refine au 4 ?_
  exact hJ3 _ _ ⟨dAndT hc2,rfl,rfl,trivial⟩ (fun w s=>s)
 refine au 4 ?_
 exact hJ3 _ _ ⟨dAndF hc2,rfl,rfl,trivial⟩ (fun w s=>s)
theorem disc_form_walk (a0_p:Vec) (a1_r:Int) (w:World) {r:Bool} (H:disc_form a0_p a1_r = some r):Calls Tryz.prog 175 #[.agg #[.int .i64 a0_p.x,.int .i64 a0_p.y],.int .i64 a1_r] w fun e w'=>e = .returned (.bool r)∧Ext w w':=by
 unfold disc_form at H
 refine te Tryz.func175 (Sat.start w) ?_
 refine T.seq fun _ k1=>T.region (RS.solid (Sd.box (cs:=[_,_]) rfl rfl) rfl rfl fun b1=>rA rfl (RS.nil (k1 _ _ ?_)))
 refine T.seq fun _ k2=>T.region (au 3 ?_)
 refine RS.joinV 3 10 (.bool (decide ((0 ≤ a1_r)∧(a1_r ≤ 262144)))) [(2,_),(4,_)] sb ?_ ?_
 ·refine rM rfl ?_
  refine RS.joinB H 3 14 (fun b6=>.bool b6) [(4,_)] sb ?_ ?_
  ·intro b6 H
   refine rA rfl (RS.nil (k2 _ _ ?_))
   obtain rfl:=sj H
   refine T.rt (Cont.ret1 rfl rfl fun w' s=>?_)
   exact ⟨rfl,s.ext⟩
  intro z7 H hJ5
  refine RS.splitP 11 rfl (fun hc4=>?_) (fun hc4=>?_)
  ·have H:=ifT hc4 H
   refine rq (Qt.ldBA (us:=[_,_]) 0 ty33.h rfl rfl rfl rfl) ?_
   obtain ⟨x8,hx8,H⟩:=bindE H
   refine rq (Qt.call (vs:=[_]) ent184 rfl fun w s=>disc_Place_walk a0_p w  hx8) (rp (Pu.pickT rfl rfl) ?_)
   obtain rfl:=sj H
   exact hJ5 _ _ sb (fun w s=>s)
  have H:=ifF hc4 H
  refine au 3 ?_
  obtain rfl:=sj H
  exact hJ5 _ _ sb (fun w s=>s)
 intro hJ3
 refine RS.splitP 7 rfl (fun hc2=>?_) (fun hc2=>?_)
 ·refine au 3 ?_
  exact hJ3 _ _ ⟨dAndT hc2,rfl,rfl,trivial⟩ (fun w s=>s)
 refine au 3 ?_
 exact hJ3 _ _ ⟨dAndF hc2,rfl,rfl,trivial⟩ (fun w s=>s)
theorem disc_round_walk (a0_r:Int) (w:World) {r:Int} (H:disc_round a0_r = some r):Calls Tryz.prog 180 #[.int .i64 a0_r] w fun e w'=>e = .returned (.int .i64 r)∧Ext w w':=by
 unfold disc_round at H
 refine te Tryz.func180 (Sat.start w) ?_
 refine au 2 ?_
 refine T.seq fun _ k2=>T.region (rM rfl (rp (Pu.maxI rfl rfl) (rp (Pu.minI rfl rfl) (rA rfl (RS.nil (k2 _ _ (kq [2] ?_)))))))
 obtain rfl:=sj H
 refine T.rt (Cont.ret1 rfl rfl fun w' s=>?_)
 exact ⟨rfl,s.ext⟩
theorem disc_Hits_walk (a0_g:Grd) (a1_t:Int) (a2_p:Vec) (a3_r:Int) (w:World) {v0:Value} (h0:R (hpOf w) a0_g.tiles [v0]) {r:Bool} (H:disc_Hits a0_g a1_t a2_p a3_r = some r):Calls Tryz.prog 176 #[.agg #[.int .i64 a0_g.w,.int .i64 a0_g.h,v0],.int .i64 a1_t,.agg #[.int .i64 a2_p.x,.int .i64 a2_p.y],.int .i64 a3_r] w fun e w'=>e = .returned (.bool r)∧Ext w w':=by
 have hm0:=R_max h0
 obtain ⟨p0,c0,rfl⟩:=R_form h0
 unfold disc_Hits at H
 refine te Tryz.func176 (Sat.start w) ?_
 refine T.seq fun _ k1=>T.region (RS.solid (Sd.box (cs:=[_,_,_]) rfl rfl) rfl rfl fun b1=>RS.solid (Sd.box (cs:=[_,_]) rfl rfl) rfl rfl fun b2=>rA rfl (RS.nil (k1 _ _ (kq [1,3,4,6] ?_))))
 refine T.seq fun _ k2=>dr mixed [0,0,1,0,0,0,0,1,0,0,0,0] ?_
 refine au 3 ?_
 obtain ⟨g3,H⟩:=gdE H
 refine dp rfl (Pu.remN rfl rfl (and3 g3)) ?_
 obtain ⟨g4,H⟩:=gdE H
 refine dp rfl (Pu.mulS rfl rfl g4) (au 3 ?_)
 obtain ⟨g5,H⟩:=gdE H
 refine dp rfl (Pu.quoN rfl rfl g5) ?_
 obtain ⟨g6,H⟩:=gdE H
 refine dp rfl (Pu.mulS rfl rfl g6) (au 2 ?_)
 refine RD.nil (k2 _ _ (kq [3,6,9,10] ?_))
 refine T.seq fun _ k3=>T.region (au 3 ?_)
 refine rp (Pu.maxI rfl rfl) (rM rfl ?_)
 obtain ⟨g7,H⟩:=gdE H
 refine rp (Pu.addS rfl rfl g7) (rp (Pu.minI rfl rfl) (au 3 ?_))
 refine rp (Pu.maxI rfl rfl) (rM rfl ?_)
 obtain ⟨g8,H⟩:=gdE H
 refine rp (Pu.addS rfl rfl g8) (rp (Pu.minI rfl rfl) (rp (Pu.build (cells:=[_,_]) st33 rfl rfl) (RS.solid (Sd.alloc zr33 rfl) rfl rfl fun b9=>RS.solid (Sd.stB (cs':=[_,_]) 2 ty33.h rfl rfl rfl rfl rfl rfl rfl rfl) rfl rfl fun _=>RS.nil (k3 _ _ (kq [3,6,11] ?_)))))
 refine T.seq fun _ k4=>T.region (au 3 ?_)
 obtain ⟨x10,hx10,H⟩:=bindE H
 refine rq (Qt.call (vs:=[_,_,_]) ent179 rfl fun w s=>vec_Within_walk a2_p (⟨(min (max a2_p.x ((a1_t % a0_g.w) * 65536)) (((a1_t % a0_g.w) * 65536) + 65536)),(min (max a2_p.y ((a1_t / a0_g.w) * 65536)) (((a1_t / a0_g.w) * 65536) + 65536))⟩:Vec) a3_r w  hx10) (rA rfl (RS.nil (k4 _ _ (kq [8] ?_))))
 obtain rfl:=sj H
 refine T.rt (Cont.ret1 rfl rfl fun w' s=>?_)
 exact ⟨rfl,s.ext⟩
theorem disc_Fits_walk (a0_g:Grd) (a1_open:List Bool) (a2_p:Vec) (a3_r:Int) (w:World) {v0 v1:Value} (h0:R (hpOf w) a0_g.tiles [v0]) (h1:R (hpOf w) a1_open [v1]) {r:Bool} (H:disc_Fits a0_g a1_open a2_p a3_r = some r):Calls Tryz.prog 119 #[.agg #[.int .i64 a0_g.w,.int .i64 a0_g.h,v0],v1,.agg #[.int .i64 a2_p.x,.int .i64 a2_p.y],.int .i64 a3_r] w fun e w'=>e = .returned (.bool r)∧Ext w w':=by
 have hm0:=R_max h0
 obtain ⟨p0,c0,rfl⟩:=R_form h0
 have hm1:=R_max h1
 obtain ⟨p1,c1,rfl⟩:=R_form h1
 unfold disc_Fits at H
 refine te Tryz.func119 (Sat.start w) ?_
 refine T.seq fun _ k1=>T.region (RS.solid (Sd.box (cs:=[_,_,_]) rfl rfl) rfl rfl fun b1=>RS.solid (Sd.box (cs:=[_,_]) rfl rfl) rfl rfl fun b2=>rA rfl (RS.nil (k1 _ _ (kq [1,3,4,6] ?_))))
 refine T.seq fun _ k2=>dr mixed [0,1,0,0,1,0,0,0] ?_
 refine au 2 ?_
 obtain ⟨g3,H⟩:=gdE H
 refine dp rfl (Pu.mulS rfl rfl g3) (au 2 ?_)
 obtain ⟨g4,H⟩:=gdE H
 refine dp rfl (Pu.mulS rfl rfl g4) (au 2 ?_)
 refine RD.nil (k2 _ _ (kq [1,3,4,6,9,10] ?_))
 refine T.seq fun _ k3=>T.seq fun _ k4=>T.region (au 2 ?_)
 obtain ⟨x5,hx5,H⟩:=bindE H
 refine rq (Qt.call (vs:=[_,_]) ent175 rfl fun w s=>disc_form_walk a2_p a3_r w  hx5) (au 2 ?_)
 obtain ⟨g8,H⟩:=gdE H
 refine RS.joinV 6 30 (.bool (decide (((!x5) = true) ∨ ((a2_p.x - a3_r) < 0)))) [(1,_),(3,_),(4,_),(6,_),(9,_),(10,_)] sb ?_ ?_
 ·refine rM rfl ?_
  obtain ⟨g11,H⟩:=gdE H
  refine RS.joinV 7 38 (.bool (decide ((((!x5) = true) ∨ ((a2_p.x - a3_r) < 0)) ∨ ((a0_g.w * 65536) < (a2_p.x + a3_r))))) [(1,_),(3,_),(4,_),(6,_),(10,_)] sb ?_ ?_
  ·refine rM rfl ?_
   obtain ⟨g14,H⟩:=gdE H
   refine RS.joinV 6 45 (.bool (decide (((((!x5) = true) ∨ ((a2_p.x - a3_r) < 0)) ∨ ((a0_g.w * 65536) < (a2_p.x + a3_r))) ∨ ((a2_p.y - a3_r) < 0)))) [(1,_),(3,_),(4,_),(6,_),(10,_)] sb ?_ ?_
   ·refine rM rfl ?_
    obtain ⟨g17,H⟩:=gdE H
    refine RS.joinV 7 53 (.bool (decide ((((((!x5) = true) ∨ ((a2_p.x - a3_r) < 0)) ∨ ((a0_g.w * 65536) < (a2_p.x + a3_r))) ∨ ((a2_p.y - a3_r) < 0)) ∨ ((a0_g.h * 65536) < (a2_p.y + a3_r))))) [(1,_),(3,_),(4,_),(6,_)] sb ?_ ?_
    ·refine RS.nil (k4 _ _ ?_)
     refine T.cP H rfl (fun _ H=>nomatch H) (fun hc18 H=>?_)
     refine T.skip (k3 _ _ ?_)
     refine T.seq fun _ k6=>T.seq fun _ k7=>T.region (au 3 ?_)
     obtain ⟨g19,H⟩:=gdE H
     refine rp (Pu.subS rfl rfl g19) ?_
     obtain ⟨g20,H⟩:=gdE H
     refine rp (Pu.quoN rfl rfl ⟨g20.1,g20.2,by decide⟩) (rA rfl (RS.nil (k7 _ _ (kq [1,3,4,6,11] ?_))))
     refine T.joinE (σ:=Unit) (γ:=Unit) H Ex.go [] trivial (fun _ _=>[]) (fun _ _=>Sat w [blk b1 [.int .i64 a0_g.w,.int .i64 a0_g.h,.slice p0 a0_g.tiles.length c0] 24,blk b2 [.int .i64 a2_p.x,.int .i64 a2_p.y] 33]) ?_ ?_
     ·rintro ⟨⟩ ⟨⟩ H
      try dsimp only [Ex.then] at H
      refine Cont.kq [] ?_
      refine id (k6 _ _ ?_)
      refine au 2 ?_
      obtain rfl:=sj H
      refine T.rt (Cont.ret1 rfl rfl fun w' s=>?_)
      exact ⟨rfl,s.ext⟩
     intro z21 hz21 HX21 hJ21
     refine T.block ?_
     refine T.loopA (γ:=Unit) hz21 [(1,_),(3,_),(4,_),(6,_)] (fun v22 _=>[(11,.int .i64 v22)]) (fun v22 _=>Sat w [blk b1 [.int .i64 a0_g.w,.int .i64 a0_g.h,.slice p0 a0_g.tiles.length c0] 24,blk b2 [.int .i64 a2_p.x,.int .i64 a2_p.y] 33]) () sb sb (fun w s=>s) ?_
     rintro v22 ⟨⟩ y23 H hd21 KL21 hL21
     try dsimp only [Ex.then] at H
     refine kq [11,1,3,4,6] ?_
     refine T.seq fun _ k9=>T.seq fun _ k10=>T.region (au 4 ?_)
     obtain ⟨g24,H⟩:=gdE H
     refine rp (Pu.addS rfl rfl g24) ?_
     obtain ⟨g25,H⟩:=gdE H
     refine rp (Pu.quoN rfl rfl ⟨g25.1,g25.2,by decide⟩) (au 2 ?_)
     refine RS.joinV 5 71 (.bool (decide ((v22 ≤ ((a2_p.y + a3_r) / 65536))∧(v22 < a0_g.h)))) [(1,_),(3,_),(4,_),(6,_),(11,_)] sb ?_ ?_
     ·refine RS.nil (k10 _ _ ?_)
      refine T.cP H rfl (fun hc28 H=>?_) (fun hc28 H=>?_)
      ·refine T.skip (k9 _ _ ?_)
       refine T.seq fun _ k11=>T.block (T.seq fun _ k12=>T.region (au 3 ?_))
       obtain ⟨g29,H⟩:=gdE H
       refine rp (Pu.subS rfl rfl g29) ?_
       obtain ⟨g30,H⟩:=gdE H
       refine rp (Pu.quoN rfl rfl ⟨g30.1,g30.2,by decide⟩) (rA rfl (RS.nil (k12 _ _ (kq [1,3,4,6,11,12] ?_))))
       refine T.joinE (σ:=Unit) (γ:=Unit) H Ex.go [(1,_),(3,_),(4,_),(6,_),(11,_)] sb (fun _ _=>[]) (fun _ _=>Sat w [blk b1 [.int .i64 a0_g.w,.int .i64 a0_g.h,.slice p0 a0_g.tiles.length c0] 24,blk b2 [.int .i64 a2_p.x,.int .i64 a2_p.y] 33]) ?_ ?_
       ·rintro ⟨⟩ ⟨⟩ H
        try dsimp only [Ex.then] at H
        refine Cont.kq [1,3,4,6,11] ?_
        refine id (k11 _ _ ?_)
        refine T.region (rM rfl ?_)
        obtain ⟨g32,H⟩:=gdE H
        refine rp (Pu.addS rfl rfl g32) (rA rfl (RS.nil (hL21 _ _ (v22 + 1) () H sb sb (fun w s=>s))))
       intro z31 hz31 HX31 hJ31
       refine T.block ?_
       refine T.loopA (γ:=Unit) hz31 [(1,_),(3,_),(4,_),(6,_),(11,_)] (fun v33 _=>[(12,.int .i64 v33)]) (fun v33 _=>Sat w [blk b1 [.int .i64 a0_g.w,.int .i64 a0_g.h,.slice p0 a0_g.tiles.length c0] 24,blk b2 [.int .i64 a2_p.x,.int .i64 a2_p.y] 33]) () sb sb (fun w s=>s) ?_
       rintro v33 ⟨⟩ y34 H hd31 KL31 hL31
       try dsimp only [Ex.then] at H
       refine kq [12,1,3,4,6,11] ?_
       refine T.seq fun _ k13=>T.seq fun _ k14=>T.region (au 4 ?_)
       obtain ⟨g35,H⟩:=gdE H
       refine rp (Pu.addS rfl rfl g35) ?_
       obtain ⟨g36,H⟩:=gdE H
       refine rp (Pu.quoN rfl rfl ⟨g36.1,g36.2,by decide⟩) (au 2 ?_)
       refine RS.joinV 5 91 (.bool (decide ((v33 ≤ ((a2_p.x + a3_r) / 65536))∧(v33 < a0_g.w)))) [(1,_),(3,_),(4,_),(6,_),(11,_),(12,_)] sb ?_ ?_
       ·refine RS.nil (k14 _ _ ?_)
        refine T.cP H rfl (fun hc39 H=>?_) (fun hc39 H=>?_)
        ·refine T.skip (k13 _ _ ?_)
         refine T.seq fun _ k15=>T.block (T.seq fun _ k16=>T.region (au 4 ?_))
         obtain ⟨g40,H⟩:=gdE H
         refine rp (Pu.mulS rfl rfl g40) ?_
         obtain ⟨g41,H⟩:=gdE H
         refine rp (Pu.addS rfl rfl g41) (rA rfl (RS.nil (k16 _ _ (kq [1,3,4,6,11,12,13] ?_))))
         refine T.seq fun _ k17=>T.region (au 2 ?_)
         obtain ⟨g42,H⟩:=gdE H
         obtain ⟨bl43,ol44,rfl⟩:=R_ptr h1 (ne_of_pos (pos_of g42))
         refine rp (Pu.indexSl sl41.h rfl rfl g42) (rq (Qt.ld0 (α:=Bool) (Rd.base h1) ty4.h rfl rfl g42 (by rintro _ _ rfl; rfl)) (au 2 ?_))
         refine RS.joinB H 6 111 (fun b47=>.bool b47) [(1,_),(3,_),(4,_),(6,_),(11,_),(12,_)] sb ?_ ?_
         ·intro b47 H
          refine RS.nil (k17 _ _ ?_)
          refine T.cB H rfl (fun _ H=>nomatch H) (fun hc48 H=>?_)
          refine T.skip (k15 _ _ ?_)
          refine T.region (rM rfl ?_)
          obtain ⟨g49,H⟩:=gdE H
          refine rp (Pu.addS rfl rfl g49) (rA rfl (RS.nil (hL31 _ _ (v33 + 1) () H sb sb (fun w s=>s))))
         intro z50 H hJ46
         refine RS.split 105 rfl (fun hc45=>?_) (fun hc45=>?_)
         ·have H:=ifT hc45 H
          refine au 4 ?_
          obtain ⟨x51,hx51,H⟩:=bindE H
          refine rq (Qt.call (vs:=[_,_,_,_]) ent176 rfl fun w s=>disc_Hits_walk a0_g (v33 + (a0_g.w * v22)) a2_p a3_r w ((Rd.base h0) w s) hx51) (rp (Pu.pickT rfl rfl) ?_)
          obtain rfl:=sj H
          exact hJ46 _ _ sb (fun w s=>s)
         have H:=ifB hc45 H
         refine au 6 ?_
         obtain rfl:=sj H
         exact hJ46 _ _ sb (fun w s=>s)
        obtain rfl:=hd31 _ H
        refine T.xt (hJ31 _ _ () () HX31 sb trivial (fun w s=>s))
       intro hJ38
       refine RS.splitP 86 rfl (fun hc37=>?_) (fun hc37=>?_)
       ·refine au 5 ?_
        exact hJ38 _ _ ⟨dAndT hc37,rfl,rfl,rfl,rfl,rfl,rfl,trivial⟩ (fun w s=>s)
       refine au 5 ?_
       exact hJ38 _ _ ⟨dAndF hc37,rfl,rfl,rfl,rfl,rfl,rfl,trivial⟩ (fun w s=>s)
      obtain rfl:=hd21 _ H
      refine T.xt (hJ21 _ _ () () HX21 trivial trivial (fun w s=>s))
     intro hJ27
     refine RS.splitP 66 rfl (fun hc26=>?_) (fun hc26=>?_)
     ·refine au 5 ?_
      exact hJ27 _ _ ⟨dAndT hc26,rfl,rfl,rfl,rfl,rfl,trivial⟩ (fun w s=>s)
     refine au 5 ?_
     exact hJ27 _ _ ⟨dAndF hc26,rfl,rfl,rfl,rfl,rfl,trivial⟩ (fun w s=>s)
    intro hJ16
    refine RS.splitP 46 rfl (fun hc15=>?_) (fun hc15=>?_)
    ·refine au 7 ?_
     exact hJ16 _ _ ⟨dOrT hc15,rfl,rfl,rfl,rfl,trivial⟩ (fun w s=>s)
    refine au 3 ?_
    refine rp (Pu.addS rfl rfl (g17 hc15)) (au 3 ?_)
    exact hJ16 _ _ ⟨dOrF hc15,rfl,rfl,rfl,rfl,trivial⟩ (fun w s=>s)
   intro hJ13
   refine RS.splitP 39 rfl (fun hc12=>?_) (fun hc12=>?_)
   ·refine au 6 ?_
    exact hJ13 _ _ ⟨dOrT hc12,rfl,rfl,rfl,rfl,rfl,trivial⟩ (fun w s=>s)
   refine au 3 ?_
   refine rp (Pu.subS rfl rfl (g14 hc12)) (au 2 ?_)
   exact hJ13 _ _ ⟨dOrF hc12,rfl,rfl,rfl,rfl,rfl,trivial⟩ (fun w s=>s)
  intro hJ10
  refine RS.splitP 31 rfl (fun hc9=>?_) (fun hc9=>?_)
  ·refine au 7 ?_
   exact hJ10 _ _ ⟨dOrT hc9,rfl,rfl,rfl,rfl,rfl,trivial⟩ (fun w s=>s)
  refine au 3 ?_
  refine rp (Pu.addS rfl rfl (g11 hc9)) (au 3 ?_)
  exact hJ10 _ _ ⟨dOrF hc9,rfl,rfl,rfl,rfl,rfl,trivial⟩ (fun w s=>s)
 intro hJ7
 refine RS.split 24 rfl (fun hc6=>?_) (fun hc6=>?_)
 ·refine au 6 ?_
  exact hJ7 _ _ ⟨dOrT hc6,rfl,rfl,rfl,rfl,rfl,rfl,trivial⟩ (fun w s=>s)
 refine au 3 ?_
 refine rp (Pu.subS rfl rfl (g8 (bne_of hc6))) (au 2 ?_)
 exact hJ7 _ _ ⟨dOrF (bne_of hc6),rfl,rfl,rfl,rfl,rfl,rfl,trivial⟩ (fun w s=>s)
theorem disc_Apart_walk (a0_p:Vec) (a1_r:Int) (a2_q:Vec) (a3_s:Int) (w:World) {r:Bool} (H:disc_Apart a0_p a1_r a2_q a3_s = some r):Calls Tryz.prog 122 #[.agg #[.int .i64 a0_p.x,.int .i64 a0_p.y],.int .i64 a1_r,.agg #[.int .i64 a2_q.x,.int .i64 a2_q.y],.int .i64 a3_s] w fun e w'=>e = .returned (.bool r)∧Ext w w':=by
 unfold disc_Apart at H
 refine te Tryz.func122 (Sat.start w) ?_
 refine T.seq fun _ k1=>T.region (RS.solid (Sd.box (cs:=[_,_]) rfl rfl) rfl rfl fun b1=>RS.solid (Sd.box (cs:=[_,_]) rfl rfl) rfl rfl fun b2=>rA rfl (RS.nil (k1 _ _ (kq [1,3,4,6] ?_))))
 refine T.seq fun _ k2=>dr mixed [1,1,0,1,0,1,0,1,0,0] ?_
 refine au 3 ?_
 obtain ⟨x3,hx3,H⟩:=bindE H
 refine dq rfl (Qt.call (vs:=[_]) ent180 rfl fun w s=>disc_round_walk a1_r w  hx3) (dp rfl (Pu.move rfl) ?_)
 obtain ⟨x4,hx4,H⟩:=bindE H
 refine dq rfl (Qt.call (vs:=[_]) ent180 rfl fun w s=>disc_round_walk a3_s w  hx4) ?_
 obtain ⟨g5,H⟩:=gdE H
 refine dp rfl (Pu.addS rfl rfl g5) ?_
 obtain ⟨x6,hx6,H⟩:=bindE H
 refine dq rfl (Qt.call (vs:=[_,_,_]) ent179 rfl fun w s=>vec_Within_walk a0_p a2_q (x3 + x4) w  hx6) (au 2 ?_)
 refine RD.nil (k2 _ _ (kq [8] ?_))
 obtain rfl:=sj H
 refine T.rt (Cont.ret1 rfl rfl fun w' s=>?_)
 exact ⟨rfl,s.ext⟩
theorem steer_Toward_walk (a0_p:Vec) (a1_q:Vec) (a2_speed:Int) (w:World) {r:Vec} (H:steer_Toward a0_p a1_q a2_speed = some r):Calls Tryz.prog 215 #[.agg #[.int .i64 a0_p.x,.int .i64 a0_p.y],.agg #[.int .i64 a1_q.x,.int .i64 a1_q.y],.int .i64 a2_speed] w fun e w'=>e = .returned (.agg #[.int .i64 r.x,.int .i64 r.y])∧Ext w w':=by
 unfold steer_Toward at H
 refine te Tryz.func215 (Sat.start w) ?_
 refine T.seq fun _ k1=>T.region (RS.solid (Sd.box (cs:=[_,_]) rfl rfl) rfl rfl fun b1=>RS.solid (Sd.box (cs:=[_,_]) rfl rfl) rfl rfl fun b2=>RS.solid (Sd.alloc zr33 rfl) rfl rfl fun b3=>RS.nil (k1 _ _ ?_))
 refine T.seq fun _ k2=>T.region (au 2 ?_)
 obtain ⟨x4,hx4,H⟩:=bindE H
 refine rq (Qt.call (vs:=[_,_]) ent251 rfl fun w s=>vec_Sub_walk a1_q a0_p w  hx4) (rM rfl ?_)
 obtain ⟨x5,hx5,H⟩:=bindE H
 refine rq (Qt.call (vs:=[_,_]) ent210 rfl fun w s=>vec_Clamp_walk x4 a2_speed w  hx5) (RS.solid (Sd.stB (cs':=[_,_]) 2 ty33.h rfl rfl rfl rfl rfl rfl rfl rfl) rfl rfl fun _=>RS.nil (k2 _ _ (kq [6] ?_)))
 obtain rfl:=sj H
 refine T.rt (Cont.retC 2 rfl ty33.h rfl rfl rfl fun w' s=>?_)
 exact ⟨rfl,s.ext⟩
theorem slots_ring_walk (a0_g:Grd) (a1_goal:Int) (a2_d:Int) (a3_step:Int) (w:World) {v0:Value} (h0:R (hpOf w) a0_g.tiles [v0]) {r:List Int} (H:slots_ring a0_g a1_goal a2_d a3_step = some r):Calls Tryz.prog 290 #[.agg #[.int .i64 a0_g.w,.int .i64 a0_g.h,v0],.int .i64 a1_goal,.int .i64 a2_d,.int .i64 a3_step] w fun e w'=>∃ q1:(Option Nat × Nat),e = .returned (rowV q1 r.length)∧Sat w [row nilH 3 (rowV q1 r.length) r] w':=by
 have hm0:=R_max h0
 obtain ⟨p0,c0,rfl⟩:=R_form h0
 unfold slots_ring at H
 refine te Tryz.func290 (Sat.start w) ?_
 refine T.seq fun _ k1=>T.region (RS.solid (Sd.box (cs:=[_,_,_]) rfl rfl) rfl rfl fun b1=>rA rfl (RS.nil (k1 _ _ ?_)))
 refine T.seq fun _ k2=>dr mixed [0,0,1,0,0,0,1,0,0,0] ?_
 refine au 3 ?_
 obtain ⟨g2,H⟩:=gdE H
 refine dp rfl (Pu.remN rfl rfl (and3 g2)) (au 3 ?_)
 obtain ⟨g3,H⟩:=gdE H
 refine dp rfl (Pu.quoN rfl rfl g3) (au 2 ?_)
 refine RD.nil (k2 _ _ (kq [2,3,4,8,9,10] ?_))
 refine T.seq fun _ k3=>T.seq fun _ k4=>T.region (rM rfl ?_)
 obtain ⟨g4,H⟩:=gdE H
 refine rp (Pu.negS rfl g4) (rA rfl (RS.nil (k4 _ _ ?_)))
 refine T.joinE (σ:=List Int) (γ:=(Option Nat × Nat)) H (fun s=>s) [] trivial (fun v6 q7=>[(8,rowV q7 v6.length)]) (fun v6 q7=>Sat w [blk b1 [.int .i64 a0_g.w,.int .i64 a0_g.h,.slice p0 a0_g.tiles.length c0] 24,row nilH 3 (rowV q7 v6.length) v6]) ?_ ?_
 ·rintro v6 q7 H
  try dsimp only [Ex.then] at H
  refine Cont.kq [8] ?_
  refine id (k3 _ _ ?_)
  refine au 3 ?_
  obtain rfl:=sj H
  refine T.rt (Cont.ret1 rfl rfl fun w' s=>?_)
  exact ⟨q7,rfl,s.pc [1]⟩
 intro z5 hz5 HX5 hJ5
 refine T.block ?_
 refine T.loopA (γ:=(Option Nat × Nat)) hz5 [(2,_),(3,_),(4,_),(9,_),(10,_)] (fun (l8,v10) q9=>[(8,rowV q9 l8.length),(11,.int .i64 v10)]) (fun (l8,v10) q9=>Sat w [blk b1 [.int .i64 a0_g.w,.int .i64 a0_g.h,.slice p0 a0_g.tiles.length c0] 24,row nilH 3 (rowV q9 l8.length) l8]) (none,0) sb sb (fun w s=>(s.nilRow (α:=Int) 3).pick [0,1] (by decide) rfl) ?_
 rintro ⟨l8,v10⟩ q9 y11 H hd5 KL5 hL5
 try dsimp only [Ex.then] at H
 refine kq [8,11,2,3,4,9,10] ?_
 refine T.seq fun _ k6=>au 4 ?_
 refine T.cP H rfl (fun hc12 H=>?_) (fun hc12 H=>?_)
 ·refine T.skip (k6 _ _ (kq [2,3,4,8,9,10,11] ?_))
  refine T.seq fun _ k8=>T.block (T.seq fun _ k9=>T.region (rM rfl ?_))
  obtain ⟨g13,H⟩:=gdE H
  refine rp (Pu.negS rfl g13) (rA rfl (RS.nil (k9 _ _ ?_)))
  refine T.joinE (σ:=List Int) (γ:=(Option Nat × Nat)) H (fun s=>s) [(2,_),(3,_),(4,_),(9,_),(10,_),(11,_)] sb (fun v15 q16=>[(8,rowV q16 v15.length)]) (fun v15 q16=>Sat w [blk b1 [.int .i64 a0_g.w,.int .i64 a0_g.h,.slice p0 a0_g.tiles.length c0] 24,row nilH 3 (rowV q16 v15.length) v15]) ?_ ?_
  ·rintro v15 q16 H
   try dsimp only [Ex.then] at H
   refine Cont.kq [8,2,3,4,9,10,11] ?_
   refine id (k8 _ _ ?_)
   refine T.region (rM rfl ?_)
   obtain ⟨g17,H⟩:=gdE H
   refine rp (Pu.addS rfl rfl g17) (rA rfl (RS.nil (hL5 _ _ (v15,(v10 + 1)) q16 H sb sb (fun w s=>s))))
  intro z14 hz14 HX14 hJ14
  refine T.block ?_
  refine T.loopA (γ:=(Option Nat × Nat)) hz14 [(2,_),(3,_),(4,_),(9,_),(10,_),(11,_)] (fun (v18,l19) q20=>[(8,rowV q20 l19.length),(12,.int .i64 v18)]) (fun (v18,l19) q20=>Sat w [blk b1 [.int .i64 a0_g.w,.int .i64 a0_g.h,.slice p0 a0_g.tiles.length c0] 24,row nilH 3 (rowV q20 l19.length) l19]) q9 sb sb (fun w s=>s) ?_
  rintro ⟨v18,l19⟩ q20 y21 H hd14 KL14 hL14
  try dsimp only [Ex.then] at H
  refine kq [8,12,2,3,4,9,10,11] ?_
  refine T.seq fun _ k10=>au 4 ?_
  refine T.cP H rfl (fun hc22 H=>?_) (fun hc22 H=>?_)
  ·refine T.skip (k10 _ _ (kq [2,3,4,8,9,10,11,12] ?_))
   refine T.seq fun _ k12=>T.block (T.seq fun _ k13=>T.region (au 2 ?_))
   obtain ⟨g23,H⟩:=gdE H
   refine rp (Pu.negS rfl g23) (au 2 ?_)
   obtain ⟨g24,H⟩:=gdE H
   refine rp (Pu.negS rfl g24) (rp (Pu.max4 rfl rfl rfl rfl) (au 3 ?_))
   obtain ⟨g27,H⟩:=gdE H
   refine RS.joinV 5 49 (.bool (decide (((max (max (max v18 (-v18)) v10) (-v10)) = a2_d)∧((v18 % a3_step) = 0)))) [(2,_),(3,_),(4,_),(8,_),(9,_),(10,_),(11,_),(12,_)] sb ?_ ?_
   ·refine rM rfl ?_
    obtain ⟨g30,H⟩:=gdE H
    refine RS.joinV 5 55 (.bool (decide ((((max (max (max v18 (-v18)) v10) (-v10)) = a2_d)∧((v18 % a3_step) = 0))∧((v10 % a3_step) = 0)))) [(2,_),(3,_),(4,_),(8,_),(9,_),(10,_),(11,_),(12,_)] sb ?_ ?_
    ·refine rM rfl ?_
     refine RS.joinB H 9 65 (fun b33=>.bool b33) [(2,_),(3,_),(4,_),(8,_),(9,_),(10,_),(11,_),(12,_)] sb ?_ ?_
     ·intro b33 H
      refine RS.nil (k13 _ _ ?_)
      refine T.cB H rfl (fun hc34 H=>?_) (fun hc34 H=>?_)
      ·refine T.region (au 3 ?_)
       obtain ⟨g35,H⟩:=gdE H
       refine rp (Pu.addS rfl rfl g35) (au 4 ?_)
       obtain ⟨g36,H⟩:=gdE H
       refine rp (Pu.addS rfl rfl g36) ?_
       obtain ⟨g37,H⟩:=gdE H
       refine rp (Pu.mulS rfl rfl g37) ?_
       obtain ⟨g38,H⟩:=gdE H
       refine rp (Pu.addS rfl rfl g38) (RS.solid (Sd.litS (cs:=[_]) sl35.h zr3 rfl rfl rfl rfl rfl) rfl rfl fun b39=>?_)
       obtain ⟨g41,H⟩:=gdE H
       refine RS.solid (Sd.app1c (α:=Int) 1 2 (((a1_goal % a0_g.w) + v18) + (a0_g.w * ((a1_goal / a0_g.w) + v10))) rfl rfl (nilH_lt _) sl35.h zr3 rfl rfl rfl rfl g41 (by decide)) rfl rfl fun q40=>rA rfl (RS.nil (k12 _ _ (kq [2,3,4,8,9,10,11,12] ?_)))
       refine T.region (rM rfl ?_)
       obtain ⟨g42,H⟩:=gdE H
       refine rp (Pu.addS rfl rfl g42) (rA rfl (RS.nil (hL14 _ _ ((v18 + 1),(l19 ++ [(((a1_goal % a0_g.w) + v18) + (a0_g.w * ((a1_goal / a0_g.w) + v10)))])) q40 H sb sb (fun w s=>s.pc [0,1]))))
      refine T.skip (k12 _ _ ?_)
      refine T.region (rM rfl ?_)
      obtain ⟨g43,H⟩:=gdE H
      refine rp (Pu.addS rfl rfl g43) (rA rfl (RS.nil (hL14 _ _ ((v18 + 1),l19) q20 H sb sb (fun w s=>s))))
     intro z44 H hJ32
     refine RS.splitP 56 rfl (fun hc31=>?_) (fun hc31=>?_)
     ·have H:=ifT hc31 H
      refine au 3 ?_
      obtain ⟨g45,H⟩:=gdE H
      refine rp (Pu.addS rfl rfl g45) (au 2 ?_)
      obtain ⟨g46,H⟩:=gdE H
      refine rp (Pu.addS rfl rfl g46) ?_
      obtain ⟨x47,hx47,H⟩:=bindE H
      refine rq (Qt.call (vs:=[_,_,_]) ent304 rfl fun w s=>ground_On_walk a0_g ((a1_goal % a0_g.w) + v18) ((a1_goal / a0_g.w) + v10) w ((Rd.base h0) w s) hx47) (rp (Pu.pickT rfl rfl) ?_)
      obtain rfl:=sj H
      exact hJ32 _ _ sb (fun w s=>s)
     have H:=ifF hc31 H
     refine au 9 ?_
     obtain rfl:=sj H
     exact hJ32 _ _ sb (fun w s=>s)
    intro hJ29
    refine RS.splitP 50 rfl (fun hc28=>?_) (fun hc28=>?_)
    ·refine au 2 ?_
     refine rp (Pu.remN rfl rfl (and3 (g30 hc28))) (au 2 ?_)
     exact hJ29 _ _ ⟨dAndT hc28,rfl,rfl,rfl,rfl,rfl,rfl,rfl,rfl,trivial⟩ (fun w s=>s)
    refine au 5 ?_
    exact hJ29 _ _ ⟨dAndF hc28,rfl,rfl,rfl,rfl,rfl,rfl,rfl,rfl,trivial⟩ (fun w s=>s)
   intro hJ26
   refine RS.splitP 44 rfl (fun hc25=>?_) (fun hc25=>?_)
   ·refine au 2 ?_
    refine rp (Pu.remN rfl rfl (and3 (g27 hc25))) (au 2 ?_)
    exact hJ26 _ _ ⟨dAndT hc25,rfl,rfl,rfl,rfl,rfl,rfl,rfl,rfl,trivial⟩ (fun w s=>s)
   refine au 5 ?_
   exact hJ26 _ _ ⟨dAndF hc25,rfl,rfl,rfl,rfl,rfl,rfl,rfl,rfl,trivial⟩ (fun w s=>s)
  obtain rfl:=hd14 _ H
  refine T.xt (hJ14 _ _ l19 q20 HX14 sb sb (fun w s=>s))
 obtain rfl:=hd5 _ H
 refine T.xt (hJ5 _ _ l8 q9 HX5 trivial sb (fun w s=>s))
theorem slots_About_walk (a0_g:Grd) (a1_free:List Bool) (a2_size:Int) (a3_goal:Int) (a4_n:Int) (w:World) {v0 v1:Value} (h0:R (hpOf w) a0_g.tiles [v0]) (h1:R (hpOf w) a1_free [v1]) {r:List Int} (H:slots_About a0_g a1_free a2_size a3_goal a4_n = some r):Calls Tryz.prog 256 #[.agg #[.int .i64 a0_g.w,.int .i64 a0_g.h,v0],v1,.int .i64 a2_size,.int .i64 a3_goal,.int .i64 a4_n] w fun e w'=>∃ q1:(Option Nat × Nat),e = .returned (rowV q1 r.length)∧Sat w [row nilH 3 (rowV q1 r.length) r] w':=by
 have hm0:=R_max h0
 obtain ⟨p0,c0,rfl⟩:=R_form h0
 have hm1:=R_max h1
 obtain ⟨p1,c1,rfl⟩:=R_form h1
 unfold slots_About at H
 refine te Tryz.func256 (Sat.start w) ?_
 refine T.seq fun _ k1=>T.region (RS.solid (Sd.box (cs:=[_,_,_]) rfl rfl) rfl rfl fun b1=>rA rfl (RS.nil (k1 _ _ ?_)))
 refine T.seq fun _ k2=>T.region (rM rfl ?_)
 obtain ⟨g2,H⟩:=gdE H
 refine rp (Pu.mulS rfl rfl g2) ?_
 obtain ⟨g3,H⟩:=gdE H
 refine rp (Pu.addS rfl rfl g3) (rA rfl (RS.nil (k2 _ _ (kq [1,3,4,5,10,11] ?_))))
 refine T.seq fun _ k3=>au 2 ?_
 refine T.joinE (σ:=List Int) (γ:=(Option Nat × Nat)) H (fun s=>s) [] trivial (fun v5 q6=>[(10,rowV q6 v5.length)]) (fun v5 q6=>Sat w [blk b1 [.int .i64 a0_g.w,.int .i64 a0_g.h,.slice p0 a0_g.tiles.length c0] 24,row nilH 3 (rowV q6 v5.length) v5]) ?_ ?_
 ·rintro v5 q6 H
  try dsimp only [Ex.then] at H
  refine Cont.kq [10] ?_
  refine id (k3 _ _ ?_)
  refine au 3 ?_
  obtain rfl:=sj H
  refine T.rt (Cont.ret1 rfl rfl fun w' s=>?_)
  exact ⟨q6,rfl,s.pc [1]⟩
 intro z4 hz4 HX4 hJ4
 refine T.block ?_
 refine T.loopA (γ:=(Option Nat × Nat)) hz4 [(1,_),(3,_),(4,_),(5,_),(11,_)] (fun (l7,v9) q8=>[(10,rowV q8 l7.length),(12,.int .i64 v9)]) (fun (l7,v9) q8=>Sat w [blk b1 [.int .i64 a0_g.w,.int .i64 a0_g.h,.slice p0 a0_g.tiles.length c0] 24,row nilH 3 (rowV q8 l7.length) l7]) (none,0) sb sb (fun w s=>(s.nilRow (α:=Int) 3).pick [0,1] (by decide) rfl) ?_
 rintro ⟨l7,v9⟩ q8 y10 H hd4 KL4 hL4
 try dsimp only [Ex.then] at H
 refine kq [10,12,1,3,4,5,11] ?_
 refine T.seq fun _ k6=>T.seq fun _ k7=>T.region (au 5 ?_)
 refine rp (Pu.maxI rfl rfl) (au 2 ?_)
 refine RS.joinV 5 30 (.bool (decide ((v9 ≤ (max a0_g.w a0_g.h))∧((l7.length:Int) < a4_n)))) [(1,_),(3,_),(4,_),(5,_),(10,_),(11,_),(12,_)] sb ?_ ?_
 ·refine RS.nil (k7 _ _ ?_)
  refine T.cP H rfl (fun hc13 H=>?_) (fun hc13 H=>?_)
  ·refine T.skip (k6 _ _ ?_)
   refine T.seq fun _ k8=>T.block (T.seq fun _ k9=>T.region (au 4 ?_))
   obtain ⟨x14,hx14,H⟩:=bindE H
   refine RS.solid (Sd.callN (vs:=[_,_,_,_]) ent290 rfl (fun w s=>slots_ring_walk a0_g a3_goal v9 ((2 * a2_size) + 1) w ((Rd.base h0) w s) hx14)) rfl rfl fun q15=>au 2 ?_
   refine RS.nil (k9 _ _ (kq [1,3,4,5,10,11,12,38,39,40] ?_))
   refine T.joinE (σ:=List Int) (γ:=(Option Nat × Nat)) H (fun s=>s) [(1,_),(3,_),(4,_),(5,_),(11,_),(12,_)] sb (fun v17 q18=>[(10,rowV q18 v17.length)]) (fun v17 q18=>Sat w [blk b1 [.int .i64 a0_g.w,.int .i64 a0_g.h,.slice p0 a0_g.tiles.length c0] 24,row nilH 3 (rowV q18 v17.length) v17,row nilH 3 (rowV q15 x14.length) x14]) ?_ ?_
   ·rintro v17 q18 H
    try dsimp only [Ex.then] at H
    refine Cont.kq [10,1,3,4,5,11,12] ?_
    refine id (k8 _ _ ?_)
    refine T.region (au 2 ?_)
    obtain ⟨g19,H⟩:=gdE H
    refine rp (Pu.addS rfl rfl g19) (rA rfl (RS.nil (hL4 _ _ (v17,(v9 + ((2 * a2_size) + 1))) q18 H sb sb (fun w s=>s.pc [0,1]))))
   intro z16 hz16 HX16 hJ16
   refine T.block ?_
   refine T.loopA (γ:=(Option Nat × Nat)) hz16 [(1,_),(3,_),(4,_),(5,_),(11,_),(12,_),(38,_),(39,_)] (fun (v20,l21) q22=>[(10,rowV q22 l21.length),(40,.int .i64 v20)]) (fun (v20,l21) q22=>Sat w [blk b1 [.int .i64 a0_g.w,.int .i64 a0_g.h,.slice p0 a0_g.tiles.length c0] 24,row nilH 3 (rowV q22 l21.length) l21,row nilH 3 (rowV q15 x14.length) x14]) q8 sb sb (fun w s=>s) ?_
   rintro ⟨v20,l21⟩ q22 y23 H hd16 KL16 hL16
   try dsimp only [Ex.then] at H
   refine kq [10,40,1,3,4,5,11,12,38,39] ?_
   refine au 2 ?_
   refine T.seq fun _ k11=>?_
   refine T.cP H rfl (fun hc24 H=>?_) (fun hc24 H=>?_)
   ·refine T.skip (k11 _ _ ?_)
    refine T.seq fun _ k12=>T.block (T.seq fun _ k13=>T.region ?_)
    obtain ⟨g25,H⟩:=gdE H
    refine RS.know (p:=∃ g cap,q15 = (some g,cap)) (fun w s=>(s.row_some (k:=2) rfl (pos_of g25))) ?_
    rintro ⟨gg26,cc27,rfl⟩
    refine rp (Pu.indexSl sl35.h rfl rfl g25) (rq (Qt.ld0 (α:=Int) (Rd.ofRowN 2 rfl) ty3.h rfl rfl g25 (by rintro _ _ rfl; rfl)) (rA rfl (RS.nil (k13 _ _ (kq [1,3,4,5,10,11,12,14,38,39,40] ?_)))))
    refine T.seq fun _ k14=>T.region (au 2 ?_)
    obtain ⟨g28,H⟩:=gdE H
    obtain ⟨bl29,ol30,rfl⟩:=R_ptr h1 (ne_of_pos (pos_of g28))
    refine rp (Pu.indexSl sl41.h rfl rfl g28) (rq (Qt.ld0 (α:=Bool) (Rd.base h1) ty4.h rfl rfl g28 (by rintro _ _ rfl; rfl)) (rM rfl ?_))
    refine RS.joinV 5 53 (.bool (decide (((gi a1_free (gi x14 v20)) = true)∧((l21.length:Int) < a4_n)))) [(1,_),(3,_),(4,_),(5,_),(10,_),(11,_),(12,_),(14,_),(38,_),(39,_),(40,_)] sb ?_ ?_
    ·refine RS.nil (k14 _ _ ?_)
     refine T.cP H rfl (fun hc33 H=>?_) (fun hc33 H=>?_)
     ·refine T.region (au 2 ?_)
      refine RS.solid (Sd.litS (cs:=[_]) sl35.h zr3 rfl rfl rfl rfl rfl) rfl rfl fun b34=>?_
      obtain ⟨g36,H⟩:=gdE H
      refine RS.solid (Sd.app1c (α:=Int) 1 3 (gi x14 v20) rfl rfl (nilH_lt _) sl35.h zr3 rfl rfl rfl rfl g36 (by decide)) rfl rfl fun q35=>rA rfl (RS.nil (k12 _ _ (kq [1,3,4,5,10,11,12,38,39,40] ?_)))
      refine T.region ?_
      obtain ⟨g37,H⟩:=gdE H
      refine rp (Pu.addS rfl rfl g37) (rM rfl (RS.nil (hL16 _ _ ((v20 + 1),(l21 ++ [(gi x14 v20)])) q35 H sb sb (fun w s=>s.pc [0,1,2]))))
     refine T.skip (k12 _ _ ?_)
     refine T.region ?_
     obtain ⟨g38,H⟩:=gdE H
     refine rp (Pu.addS rfl rfl g38) (rM rfl (RS.nil (hL16 _ _ ((v20 + 1),l21) q22 H sb sb (fun w s=>s))))
    intro hJ32
    refine RS.split 48 rfl (fun hc31=>?_) (fun hc31=>?_)
    ·refine au 5 ?_
     exact hJ32 _ _ ⟨dAndT hc31,rfl,rfl,rfl,rfl,rfl,rfl,rfl,rfl,rfl,rfl,rfl,trivial⟩ (fun w s=>s)
    refine au 5 ?_
    exact hJ32 _ _ ⟨dAndF (bne_of hc31),rfl,rfl,rfl,rfl,rfl,rfl,rfl,rfl,rfl,rfl,rfl,trivial⟩ (fun w s=>s)
   obtain rfl:=hd16 _ H
   refine T.xt (hJ16 _ _ l21 q22 HX16 sb sb (fun w s=>s))
  obtain rfl:=hd4 _ H
  refine T.xt (hJ4 _ _ l7 q8 HX4 trivial sb (fun w s=>s))
 intro hJ12
 refine RS.splitP 25 rfl (fun hc11=>?_) (fun hc11=>?_)
 ·refine au 5 ?_
  exact hJ12 _ _ ⟨dAndT hc11,rfl,rfl,rfl,rfl,rfl,rfl,rfl,trivial⟩ (fun w s=>s)
 refine au 5 ?_
 exact hJ12 _ _ ⟨dAndF hc11,rfl,rfl,rfl,rfl,rfl,rfl,rfl,trivial⟩ (fun w s=>s)
theorem command_units_walk (a0_l:List Int) (w:World) {v0:Value} (h0:R (hpOf w) a0_l [v0]) {r:Bool} (H:command_units a0_l = some r):Calls Tryz.prog 185 #[v0] w fun e w'=>e = .returned (.bool r)∧Ext w w':=by
 have hm0:=R_max h0
 obtain ⟨p0,c0,rfl⟩:=R_form h0
 unfold command_units at H
 refine te Tryz.func185 (Sat.start w) ?_
 refine au 2 ?_
 refine T.seq fun _ k2=>au 4 ?_
 refine T.joinE (σ:=Unit) (γ:=Unit) H Ex.go [(0,_)] sb (fun _ _=>[]) (fun _ _=>Sat w []) ?_ ?_
 ·rintro ⟨⟩ ⟨⟩ H
  try dsimp only [Ex.then] at H
  refine Cont.kq [0] ?_
  refine id (k2 _ _ ?_)
  refine T.seq fun _ k4=>T.region (au 4 ?_)
  refine RS.joinV 4 39 (.bool (decide ((1 ≤ (a0_l.length:Int))∧((a0_l.length:Int) ≤ 64)))) [] trivial ?_ ?_
  ·refine rA rfl (RS.nil (k4 _ _ ?_))
   obtain rfl:=sj H
   refine T.rt (Cont.ret1 rfl rfl fun w' s=>?_)
   exact ⟨rfl,s.ext⟩
  intro hJ3
  refine RS.splitP 35 rfl (fun hc2=>?_) (fun hc2=>?_)
  ·refine au 4 ?_
   exact hJ3 _ _ ⟨dAndT hc2,trivial⟩ (fun w s=>s)
  refine au 4 ?_
  exact hJ3 _ _ ⟨dAndF hc2,trivial⟩ (fun w s=>s)
 intro z1 hz1 HX1 hJ1
 refine T.block ?_
 refine T.loopA (γ:=Unit) hz1 [(0,_),(5,_),(6,_)] (fun v4 _=>[(7,.int .i64 v4)]) (fun v4 _=>Sat w []) () sb sb (fun w s=>s) ?_
 rintro v4 ⟨⟩ y5 H hd1 KL1 hL1
 try dsimp only [Ex.then] at H
 refine kq [7,0,5,6] ?_
 refine au 2 ?_
 refine T.seq fun _ k6=>?_
 refine T.cP H rfl (fun hc6 H=>?_) (fun hc6 H=>?_)
 ·refine T.skip (k6 _ _ ?_)
  refine T.seq fun _ k7=>T.block (T.seq fun _ k8=>T.region (rM rfl ?_))
  obtain ⟨g7,H⟩:=gdE H
  obtain ⟨bl8,ol9,rfl⟩:=R_ptr h0 (ne_of_pos (pos_of g7))
  refine rp (Pu.indexSl sl35.h rfl rfl g7) (rq (Qt.ld0 (α:=Int) (Rd.base h0) ty3.h rfl rfl g7 (by rintro _ _ rfl; rfl)) (au 2 ?_))
  refine RS.nil (k8 _ _ (kq [0,3,4,5,6,7] ?_))
  refine T.seq fun _ k9=>T.region (au 3 ?_)
  refine RS.joinV 3 17 (.bool (decide (((gi a0_l v4) < 1) ∨ (1099511627776 < (gi a0_l v4))))) [(0,_),(3,_),(4,_),(5,_),(6,_),(7,_)] sb ?_ ?_
  ·refine rM rfl ?_
   obtain ⟨g14,H⟩:=gdE H
   obtain ⟨g15,H⟩:=gdE H
   refine RS.joinV 12 30 (.bool (decide ((((gi a0_l v4) < 1) ∨ (1099511627776 < (gi a0_l v4))) ∨ ((0 < v4)∧((gi a0_l v4) ≤ (gi a0_l (v4 - 1))))))) [(0,_),(5,_),(6,_),(7,_)] sb ?_ ?_
   ·refine RS.nil (k9 _ _ ?_)
    refine T.cP H rfl (fun _ H=>nomatch H) (fun hc16 H=>?_)
    refine T.skip (k7 _ _ ?_)
    refine T.region ?_
    obtain ⟨g17,H⟩:=gdE H
    refine rp (Pu.addS rfl rfl g17) (rM rfl (RS.nil (hL1 _ _ (v4 + 1) () H sb sb (fun w s=>s))))
   intro hJ13
   refine RS.splitP 18 rfl (fun hc12=>?_) (fun hc12=>?_)
   ·refine au 12 ?_
    exact hJ13 _ _ ⟨dOrT hc12,rfl,rfl,rfl,rfl,trivial⟩ (fun w s=>s)
   refine au 3 ?_
   refine RS.joinV 8 29 (.bool (decide ((0 < v4)∧((gi a0_l v4) ≤ (gi a0_l (v4 - 1)))))) [(0,_),(3,_),(4,_),(5,_),(6,_),(7,_),(17,_),(18,_),(19,_),(20,_)] sb ?_ ?_
   ·refine rp (Pu.pickF rfl rfl) ?_
    exact hJ13 _ _ ⟨dOrF hc12,rfl,rfl,rfl,rfl,trivial⟩ (fun w s=>s)
   intro hJ19
   refine RS.splitP 21 rfl (fun hc18=>?_) (fun hc18=>?_)
   ·refine au 2 ?_
    refine rp (Pu.subS rfl rfl ((g14 hc12) hc18)) (rp (Pu.indexSl sl35.h rfl rfl ((g15 hc12) hc18)) (rq (Qt.ld0 (α:=Int) (Rd.base h0) ty3.h rfl rfl ((g15 hc12) hc18) (by rintro _ _ rfl; rfl)) (au 3 ?_)))
    exact hJ19 _ _ ⟨dAndT hc18,rfl,rfl,rfl,rfl,rfl,rfl,rfl,rfl,rfl,rfl,trivial⟩ (fun w s=>s)
   refine au 8 ?_
   exact hJ19 _ _ ⟨dAndF hc18,rfl,rfl,rfl,rfl,rfl,rfl,rfl,rfl,rfl,rfl,trivial⟩ (fun w s=>s)
  intro hJ11
  refine RS.splitP 14 rfl (fun hc10=>?_) (fun hc10=>?_)
  ·refine au 3 ?_
   exact hJ11 _ _ ⟨dOrT hc10,rfl,rfl,rfl,rfl,rfl,rfl,trivial⟩ (fun w s=>s)
  refine au 3 ?_
  exact hJ11 _ _ ⟨dOrF hc10,rfl,rfl,rfl,rfl,rfl,rfl,trivial⟩ (fun w s=>s)
 obtain rfl:=hd1 _ H
 refine T.xt (hJ1 _ _ () () HX1 sb trivial (fun w s=>s))
theorem command_within_walk (a0_n:Int) (a1_least:Int) (a2_most:Int) (w:World) {r:Bool} (H:command_within a0_n a1_least a2_most = some r):Calls Tryz.prog 125 #[.int .i64 a0_n,.int .i64 a1_least,.int .i64 a2_most] w fun e w'=>e = .returned (.bool r)∧Ext w w':=by
 unfold command_within at H
 refine te Tryz.func125 (Sat.start w) ?_
 refine au 2 ?_
 refine T.seq fun _ k2=>T.region (au 4 ?_)
 refine RS.joinV 4 14 (.bool (decide ((a1_least ≤ a0_n)∧(a0_n ≤ a2_most)))) [(6,_)] sb ?_ ?_
 ·refine rA rfl (RS.nil (k2 _ _ ?_))
  obtain rfl:=sj H
  refine T.rt (Cont.ret1 rfl rfl fun w' s=>?_)
  exact ⟨rfl,s.ext⟩
 intro hJ2
 refine RS.splitP 10 rfl (fun hc1=>?_) (fun hc1=>?_)
 ·refine au 4 ?_
  exact hJ2 _ _ ⟨dAndT hc1,rfl,trivial⟩ (fun w s=>s)
 refine au 4 ?_
 exact hJ2 _ _ ⟨dAndF hc1,rfl,trivial⟩ (fun w s=>s)
theorem apply_rest_walk (a0_u:Unt) (w:World) {r:Unt} (H:apply_rest a0_u = some r):Calls Tryz.prog 186 #[.agg #[.int .i64 a0_u.id,.int .i64 a0_u.owner,.int .i64 a0_u.kind,.int .i64 a0_u.pos.x,.int .i64 a0_u.pos.y,.int .i64 a0_u.goal,.int .i64 a0_u.next,.int .i64 a0_u.stuck,.int .i64 a0_u.inn,.int .i64 a0_u.state]] w fun e w'=>e = .returned (.agg #[.int .i64 r.id,.int .i64 r.owner,.int .i64 r.kind,.int .i64 r.pos.x,.int .i64 r.pos.y,.int .i64 r.goal,.int .i64 r.next,.int .i64 r.stuck,.int .i64 r.inn,.int .i64 r.state])∧Ext w w':=by
 unfold apply_rest at H
 refine te Tryz.func186 (Sat.start w) ?_
 refine T.seq fun _ k1=>T.region (RS.solid (Sd.box (cs:=[_,_,_,_,_,_,_,_,_,_]) rfl rfl) rfl rfl fun b1=>RS.solid (Sd.alloc zr54 rfl) rfl rfl fun b2=>RS.nil (k1 _ _ ?_))
 refine T.seq fun _ k2=>T.region (au 8 ?_)
 refine RS.nil (k2 _ _ (kq [1,2] ?_))
 refine au 3 ?_
 obtain rfl:=sj H
 refine T.rt (Cont.retC 1 rfl ty54.h rfl rfl rfl fun w' s=>?_)
 exact ⟨rfl,s.ext⟩
end Go.Proofs.YtmngdgclldkcfaaGreat
