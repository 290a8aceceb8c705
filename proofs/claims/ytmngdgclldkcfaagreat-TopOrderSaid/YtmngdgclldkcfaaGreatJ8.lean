/-
  Texts of one's own, joined: BG BH0 BH FO NO.
-/
import Derived.Test.YtmngdgclldkcfaaGreatRows
import Derived.Test.YtmngdgclldkcfaaGreatJ7
import Derived.Test.YtmngdgclldkcfaaGreatJ5
import Derived.Test.YtmngdgclldkcfaaGreatJ6
set_option linter.unusedVariables false
set_option linter.unusedSimpArgs false
set_option maxRecDepth 20000
set_option maxHeartbeats 4000000
namespace Go.Proofs.YtmngdgclldkcfaaGreat
open Go.Vg
open Enc (R)
def throngref0_EqNumbers (a0_a:List Int) (a1_b:List Int):Option Bool :=
  if ¬ (a0_a.length:Int) = (a1_b.length:Int) then
  some false
  else
  Option.bind (α:=Ex (Unit) (Bool)) (loop (σ:=Int) (β:=Ex (Unit) (Bool)) (fun v3 =>
  if v3 < (a0_a.length:Int) then
  if 0 ≤ v3∧v3 < (a0_a.length:Int) then
  if 0 ≤ v3∧v3 < (a1_b.length:Int) then
  if ¬ (gi a0_a v3) = (gi a1_b v3) then
  some (St.done (Ex.up false))
  else
  if I64 (v3 + 1) then
  some (St.next (v3 + 1))
  else none
  else none
  else none
  else
  some (St.done (Ex.go ()))) 0) fun x=>x.then fun _ =>
  some true
def throngref0_Num (a0_n:Int) (a1_most:Int):Option Bool :=
  some (decide ((0 ≤ a0_n)∧(a0_n ≤ a1_most)))
def thronglaw0_Within (a0_i:Int) (a1_n:Int):Option Int :=
  if 0 ≤ (a0_i % 18446744073709551616)∧(1:Int) ≤ (a1_n % 18446744073709551616) then
  if I64 ((a0_i % 18446744073709551616) % (a1_n % 18446744073709551616)) then
  some ((a0_i % 18446744073709551616) % (a1_n % 18446744073709551616))
  else none
  else none
def cmp_isNaN (a0_x:Int):Option Bool :=
  some (decide (¬ a0_x = a0_x))
def cmp_Compare (a0_x:Int) (a1_y:Int):Option Int :=
  Option.bind (cmp_isNaN a0_x) fun x1 =>
  Option.bind (cmp_isNaN a1_y) fun x2 =>
  if x1 = true then
  if x2 = true then
  some 0
  else
  some (-1)
  else
  if x2 = true then
  some 1
  else
  if a0_x < a1_y then
  some (-1)
  else
  if a1_y < a0_x then
  some 1
  else
  some 0
def slices_Max (a0_x:List UInt8):Option Int :=
  Option.bind (α:=Unit) (if (a0_x.length:Int) < 1 then
  none
  else
  some ()) fun _ =>
  if 0 ≤ (0:Int)∧(0:Int) < (a0_x.length:Int) then
  Option.bind (α:=Int) (loop (σ:=Int × Int) (β:=Int) (fun (v7,v8) =>
  if v8 < (a0_x.length:Int) then
  if 0 ≤ v8∧v8 < (a0_x.length:Int) then
  if I64 (v8 + 1) then
  some (St.next ((max v7 ((gi a0_x v8).toNat:Int)),(v8 + 1)))
  else none
  else none
  else
  some (St.done v7)) (((gi a0_x (0:Int)).toNat:Int),1)) fun v6 =>
  some v6
  else none
def slices_IndexFuncB (a0_s:List Bld) (a1_f:Bld→Option Bool):Option Int :=
  Option.bind (α:=Ex (Unit) (Int)) (loop (σ:=Int) (β:=Ex (Unit) (Int)) (fun v2 =>
  if v2 < (a0_s.length:Int) then
  none
  else
  some (St.done (Ex.go ()))) 0) fun x=>x.then fun _ =>
  some (-1)
def slices_ContainsFuncB (a0_s:List Bld) (a1_f:Bld→Option Bool):Option Bool :=
  Option.bind (slices_IndexFuncB a0_s a1_f) fun x1 =>
  some (decide (0 ≤ x1))
def ground_Side (a0_n:Int):Option Bool :=
  some (decide ((1 ≤ a0_n)∧(a0_n ≤ 128)))
def ground_May (a0_g:Grd):Option Bool :=
  Option.bind (ground_Side a0_g.w) fun x2 =>
  Option.bind (if (!x2) = true then
  some true
  else
  Option.bind (ground_Side a0_g.h) fun x12 =>
  some (!x12)) fun b5 =>
  if ¬ (b5 = true)→(I64 (a0_g.w * a0_g.h)) then
  if (b5 = true) ∨ (¬ (a0_g.tiles.length:Int) = (a0_g.w * a0_g.h)) then
  some false
  else
  Option.bind (slices_Max a0_g.tiles) fun x10 =>
  some (decide (x10 ≤ 5))
  else none
def build_Tiles (a0_g:Grd) (a1_b:Bld):Option (List Int) :=
  none
def build_rising (a0_l:List Bld):Option Bool :=
  Option.bind (α:=Ex (Unit) (Bool)) (loop (σ:=Int) (β:=Ex (Unit) (Bool)) (fun v2 =>
  if v2 < (a0_l.length:Int) then
  none
  else
  some (St.done (Ex.go ()))) 1) fun x=>x.then fun _ =>
  some true
def build_May (a0_g:Grd) (a1_l:List Bld):Option Bool :=
  Option.bind (if 256 < (a1_l.length:Int) then
  some true
  else
  Option.bind (build_rising a1_l) fun x13 =>
  some (!x13)) fun b4 =>
  if b4 = true then
  none
  else
  if 0 ≤ (a0_g.tiles.length:Int)∧(a0_g.tiles.length:Int) ≤ 281474976710656 then
  Option.bind (α:=Ex (Unit) (Bool)) (loop (σ:=Int) (β:=Ex (Unit) (Bool)) (fun v9 =>
  if v9 < (a1_l.length:Int) then
  none
  else
  some (St.done (Ex.go ()))) 0) fun x=>x.then fun _ =>
  some true
  else none
def build_Cover (a0_g:Grd) (a1_l:List Bld):Option (List Bool) :=
  if 0 ≤ (a0_g.tiles.length:Int)∧(a0_g.tiles.length:Int) ≤ 281474976710656 then
  Option.bind (α:=List Bool) (loop (σ:=Int × List Bool) (β:=List Bool) (fun (v6,l7) =>
  if v6 < (a1_l.length:Int) then
  if 0 ≤ v6∧v6 < (a1_l.length:Int) then
  Option.bind (build_Tiles a0_g (gi a1_l v6)) fun x14 =>
  Option.bind (α:=List Bool) (loop (σ:=Int × List Bool) (β:=List Bool) (fun (v19,l20) =>
  if v19 < (x14.length:Int) then
  if 0 ≤ v19∧v19 < (x14.length:Int) then
  if 0 ≤ (gi x14 v19)∧(gi x14 v19) < ((a0_g.tiles.length:Int).toNat:Int) then
  if I64 (v19 + 1) then
  some (St.next ((v19 + 1),(si l20 (gi x14 v19) true)))
  else none
  else none
  else none
  else
  some (St.done l20)) (0,l7)) fun v17 =>
  if I64 (v6 + 1) then
  some (St.next ((v6 + 1),v17))
  else none
  else none
  else
  some (St.done l7)) (0,(List.replicate (a0_g.tiles.length:Int).toNat false))) fun v5 =>
  some v5
  else none
def throngref5_Ground (a0_g:Grd):Option Bool :=
  if ¬ ((((a0_g.w < 1) ∨ (128 < a0_g.w)) ∨ (a0_g.h < 1)) ∨ (128 < a0_g.h))→(I64 (a0_g.w * a0_g.h)) then
  if ((((a0_g.w < 1) ∨ (128 < a0_g.w)) ∨ (a0_g.h < 1)) ∨ (128 < a0_g.h)) ∨ (¬ (a0_g.tiles.length:Int) = (a0_g.w * a0_g.h)) then
  some false
  else
  Option.bind (α:=Ex (Unit) (Bool)) (loop (σ:=Int) (β:=Ex (Unit) (Bool)) (fun v13 =>
  if v13 < (a0_g.tiles.length:Int) then
  if 0 ≤ v13∧v13 < (a0_g.tiles.length:Int) then
  if 5 < ((gi a0_g.tiles v13).toNat:Int) then
  some (St.done (Ex.up false))
  else
  if I64 (v13 + 1) then
  some (St.next (v13 + 1))
  else none
  else none
  else
  some (St.done (Ex.go ()))) 0) fun x=>x.then fun _ =>
  some true
  else none
end Go.Proofs.YtmngdgclldkcfaaGreat
set_option linter.unusedVariables false
set_option linter.unusedSimpArgs false
set_option maxRecDepth 20000
set_option maxHeartbeats 4000000
namespace Go.Proofs.YtmngdgclldkcfaaGreat
open Go.Vg
open Enc (R)
theorem ent169:Ent Tryz.prog 169:=en Tryz.func169
theorem ent254:Ent Tryz.prog 254:=en Tryz.func254
theorem ent63:Ent Tryz.prog 63:=en Tryz.func63
theorem ent64:Ent Tryz.prog 64:=en Tryz.func64
instance fd24_0:FdC Tryz.prog 24 0 0:={}
instance fd24_1:FdC Tryz.prog 24 1 1:={}
instance fd24_2:FdC Tryz.prog 24 2 2:={}
instance sl22:SlC Tryz.prog 22 (5,1,1):={}
instance sl41:SlC Tryz.prog 41 (4,1,1):={}
instance ty135:TyC Tryz.prog 135 (6,true):={}
instance ty22:TyC Tryz.prog 22 (1,false):={}
instance ty3:TyC Tryz.prog 3 (1,false):={}
instance ty4:TyC Tryz.prog 4 (1,false):={}
instance ty5:TyC Tryz.prog 5 (1,false):={}
theorem ul4:Tryz.prog.underlying 4 = some .bool:=by kernel_rfl
theorem thronglaw0_Within_walk (a0_i:Int) (a1_n:Int) (w:World) {r:Int} (H:thronglaw0_Within a0_i a1_n = some r):Calls Tryz.prog 10 #[.int .i64 a0_i,.int .i64 a1_n] w fun e w'=>e = .returned (.int .i64 r)∧Ext w w':=by
 unfold thronglaw0_Within at H
 refine te Tryz.func10 (Sat.start w) ?_
 refine au 2 ?_
 refine T.seq fun _ k2=>T.region (rM rfl (rp (Pu.convUW us3 ul80 rfl) (rM rfl (rp (Pu.convUW us3 ul80 rfl) ?_))))
 obtain ⟨g1,H⟩:=gdE H
 refine rp (Pu.remN rfl rfl g1) ?_
 obtain ⟨g2,H⟩:=gdE H
 refine rp (Pu.convS us80 ul3 rfl g2) (rA rfl (RS.nil (k2 _ _ (kq [4] ?_))))
 obtain rfl:=sj H
 refine T.rt (Cont.ret1 rfl rfl fun w' s=>?_)
 exact ⟨rfl,s.ext⟩
theorem cmp_isNaN_walk (a0_x:Int) (w:World) {r:Bool} (H:cmp_isNaN a0_x = some r):Calls Tryz.prog 254 #[.int .i64 a0_x] w fun e w'=>e = .returned (.bool r)∧Ext w w':=by
 unfold cmp_isNaN at H
 refine te Tryz.func254 (Sat.start w) ?_
 refine au 2 ?_
 refine T.seq fun _ k2=>T.region (au 4 ?_)
 refine RS.nil (k2 _ _ (kq [2] ?_))
 obtain rfl:=sj H
 refine T.rt (Cont.ret1 rfl rfl fun w' s=>?_)
 exact ⟨rfl,s.ext⟩
theorem cmp_Compare_walk (a0_x:Int) (a1_y:Int) (w:World) {r:Int} (H:cmp_Compare a0_x a1_y = some r):Calls Tryz.prog 183 #[.int .i64 a0_x,.int .i64 a1_y] w fun e w'=>e = .returned (.int .i64 r)∧Ext w w':=by
 unfold cmp_Compare at H
 refine te Tryz.func183 (Sat.start w) ?_
 refine au 2 ?_
 refine T.seq fun _ k2=>T.region (rM rfl ?_)
 obtain ⟨x1,hx1,H⟩:=bindE H
 refine rq (Qt.call (vs:=[_]) ent254 rfl fun w s=>cmp_isNaN_walk a0_x w  hx1) (rA rfl (RS.nil (k2 _ _ (kq [0,1,5] ?_))))
 refine T.seq fun _ k3=>T.region (rM rfl ?_)
 obtain ⟨x2,hx2,H⟩:=bindE H
 refine rq (Qt.call (vs:=[_]) ent254 rfl fun w s=>cmp_isNaN_walk a1_y w  hx2) (rA rfl (RS.nil (k3 _ _ ?_)))
 refine T.seq fun _ k4=>au 2 ?_
 refine T.cB H rfl (fun hc3 H=>?_) (fun hc3 H=>?_)
 ·refine kq [6] ?_
  refine T.seq fun _ k6=>au 2 ?_
  refine T.cB H rfl (fun hc4 H=>?_) (fun hc4 H=>?_)
  ·refine au 2 ?_
   obtain rfl:=sj H
   refine T.rt (Cont.ret1 rfl rfl fun w' s=>?_)
   exact ⟨rfl,s.ext⟩
  refine T.skip (k6 _ _ ?_)
  refine au 2 ?_
  obtain rfl:=sj H
  refine T.rt (Cont.ret1 rfl rfl fun w' s=>?_)
  exact ⟨rfl,s.ext⟩
 refine T.skip (k4 _ _ (kq [0,1,6] ?_))
 refine T.seq fun _ k10=>au 2 ?_
 refine T.cB H rfl (fun hc5 H=>?_) (fun hc5 H=>?_)
 ·refine kq [] ?_
  refine au 2 ?_
  obtain rfl:=sj H
  refine T.rt (Cont.ret1 rfl rfl fun w' s=>?_)
  exact ⟨rfl,s.ext⟩
 refine T.skip (k10 _ _ ?_)
 refine T.seq fun _ k13=>au 4 ?_
 refine T.cP H rfl (fun hc6 H=>?_) (fun hc6 H=>?_)
 ·refine kq [] ?_
  refine au 2 ?_
  obtain rfl:=sj H
  refine T.rt (Cont.ret1 rfl rfl fun w' s=>?_)
  exact ⟨rfl,s.ext⟩
 refine T.skip (k13 _ _ (kq [0,1] ?_))
 refine T.seq fun _ k16=>au 4 ?_
 refine T.cP H rfl (fun hc7 H=>?_) (fun hc7 H=>?_)
 ·refine kq [] ?_
  refine au 2 ?_
  obtain rfl:=sj H
  refine T.rt (Cont.ret1 rfl rfl fun w' s=>?_)
  exact ⟨rfl,s.ext⟩
 refine T.skip (k16 _ _ (kq [] ?_))
 refine au 2 ?_
 obtain rfl:=sj H
 refine T.rt (Cont.ret1 rfl rfl fun w' s=>?_)
 exact ⟨rfl,s.ext⟩
theorem slices_Max_walk (a0_x:List UInt8) (w:World) {v0:Value} (h0:R (hpOf w) a0_x [v0]) {r:Int} (H:slices_Max a0_x = some r):Calls Tryz.prog 64 #[v0] w fun e w'=>e = .returned (.int .u8 r)∧Ext w w':=by
 have hm0:=R_max h0
 obtain ⟨p0,c0,rfl⟩:=R_form h0
 unfold slices_Max at H
 refine te Tryz.func64 (Sat.start w) ?_
 refine au 2 ?_
 refine T.seq fun _ k2=>au 4 ?_
 refine T.joinE (σ:=Unit) (γ:=Unit) H (fun s=>s) [(0,_)] sb (fun _ _=>[]) (fun _ _=>Sat w []) ?_ ?_
 ·rintro ⟨⟩ ⟨⟩ H
  try dsimp only [Ex.then] at H
  refine Cont.kq [0] ?_
  refine id (k2 _ _ ?_)
  refine T.seq fun _ k4=>T.region (rM rfl ?_)
  obtain ⟨g2,H⟩:=gdE H
  obtain ⟨bl3,ol4,rfl⟩:=R_ptr h0 (ne_of_pos (pos_of g2))
  refine rp (Pu.indexSl sl22.h rfl rfl g2) (rq (Qt.ld0 (α:=UInt8) (Rd.base h0) ty5.h rfl rfl g2 (by rintro _ _ rfl; rfl)) (rA rfl (RS.nil (k4 _ _ (kq [0,3] ?_)))))
  refine T.seq fun _ k5=>au 2 ?_
  refine T.joinE (σ:=Int) (γ:=Unit) H (fun s=>s) [] trivial (fun v6 _=>[(3,.int .u8 v6)]) (fun v6 _=>Sat w []) ?_ ?_
  ·rintro v6 ⟨⟩ H
   try dsimp only [Ex.then] at H
   refine Cont.kq [3] ?_
   refine id (k5 _ _ ?_)
   refine au 3 ?_
   obtain rfl:=sj H
   refine T.rt (Cont.ret1 rfl rfl fun w' s=>?_)
   exact ⟨rfl,s.ext⟩
  intro z5 hz5 HX5 hJ5
  refine T.block ?_
  refine T.loopA (γ:=Unit) hz5 [(0,_)] (fun (v7,v8) _=>[(3,.int .u8 v7),(4,.int .i64 v8)]) (fun (v7,v8) _=>Sat w []) () sb sb (fun w s=>s) ?_
  rintro ⟨v7,v8⟩ ⟨⟩ y9 H hd5 KL5 hL5
  try dsimp only [Ex.then] at H
  refine kq [3,4,0] ?_
  refine T.seq fun _ k8=>au 5 ?_
  refine T.cP H rfl (fun hc10 H=>?_) (fun hc10 H=>?_)
  ·refine T.skip (k8 _ _ (kq [0,3,4] ?_))
   refine T.seq fun _ k10=>T.block (T.region (au 3 ?_))
   obtain ⟨g11,H⟩:=gdE H
   refine rp (Pu.indexSl sl22.h rfl rfl g11) (rq (Qt.ld0 (α:=UInt8) (Rd.base h0) ty5.h rfl rfl g11 (by rintro _ _ rfl; rfl)) (rp (Pu.maxI rfl rfl) (rA rfl (RS.nil (k10 _ _ (kq [0,3,4] ?_))))))
   refine T.region (rM rfl ?_)
   obtain ⟨g12,H⟩:=gdE H
   refine rp (Pu.addS rfl rfl g12) (rA rfl (RS.nil (hL5 _ _ ((max v7 ((gi a0_x v8).toNat:Int)),(v8 + 1)) () H sb sb (fun w s=>s))))
  obtain rfl:=hd5 _ H
  refine T.xt (hJ5 _ _ v7 () HX5 trivial sb (fun w s=>s))
 intro z1 H HX1 hJ1
 refine T.cP H rfl (fun _ H=>nomatch H) (fun hc13 H=>?_)
 obtain rfl:=sj H
 refine T.skip (hJ1 _ _ () () HX1 sb trivial (fun w s=>s))
theorem slices_IndexFuncB_walk (a0_s:List Bld) (a1_f:Bld→Option Bool) (w:World) {v0 v1:Value} (h0:R (hpOf w) a0_s [v0]) (h1:FnQ Tryz.prog w v1 (fun (y0:Bld)=>[.agg #[.int .i64 y0.id,.int .i64 y0.owner,.int .i64 y0.x,.int .i64 y0.y,.int .i64 y0.w,.int .i64 y0.h]]) (fun (r:Bool)=>.bool r) a1_f) {r:Int} (H:slices_IndexFuncB a0_s a1_f = some r):Calls Tryz.prog 169 #[v0,v1] w fun e w'=>e = .returned (.int .i64 r)∧Ext w w':=by
 have hm0:=R_max h0
 obtain ⟨p0,c0,rfl⟩:=R_form h0
 unfold slices_IndexFuncB at H
 refine te Tryz.func169 (Sat.start w) ?_
 refine au 2 ?_
 refine T.seq fun _ k2=>au 4 ?_
 refine T.joinE (σ:=Unit) (γ:=Unit) H Ex.go [] trivial (fun _ _=>[]) (fun _ _=>Sat w []) ?_ ?_
 ·rintro ⟨⟩ ⟨⟩ H
  try dsimp only [Ex.then] at H
  refine Cont.kq [] ?_
  refine id (k2 _ _ ?_)
  refine au 2 ?_
  obtain rfl:=sj H
  refine T.rt (Cont.ret1 rfl rfl fun w' s=>?_)
  exact ⟨rfl,s.ext⟩
 intro z1 hz1 HX1 hJ1
 refine T.block ?_
 refine T.loopA (γ:=Unit) hz1 [(0,_),(1,_),(7,_)] (fun v2 _=>[(8,.int .i64 v2)]) (fun v2 _=>Sat w []) () sb sb (fun w s=>s) ?_
 rintro v2 ⟨⟩ y3 H hd1 KL1 hL1
 try dsimp only [Ex.then] at H
 refine kq [8,0,1,7] ?_
 refine au 2 ?_
 refine T.seq fun _ k6=>?_
 refine T.cP H rfl (fun _ H=>nomatch H) (fun hc4 H=>?_)
 obtain rfl:=hd1 _ H
 refine T.xt (hJ1 _ _ () () HX1 trivial trivial (fun w s=>s))
theorem slices_ContainsFuncB_walk (a0_s:List Bld) (a1_f:Bld→Option Bool) (w:World) {v0 v1:Value} (h0:R (hpOf w) a0_s [v0]) (h1:FnQ Tryz.prog w v1 (fun (y0:Bld)=>[.agg #[.int .i64 y0.id,.int .i64 y0.owner,.int .i64 y0.x,.int .i64 y0.y,.int .i64 y0.w,.int .i64 y0.h]]) (fun (r:Bool)=>.bool r) a1_f) {r:Bool} (H:slices_ContainsFuncB a0_s a1_f = some r):Calls Tryz.prog 112 #[v0,v1] w fun e w'=>e = .returned (.bool r)∧Ext w w':=by
 have hm0:=R_max h0
 obtain ⟨p0,c0,rfl⟩:=R_form h0
 unfold slices_ContainsFuncB at H
 refine te Tryz.func112 (Sat.start w) ?_
 refine au 2 ?_
 refine T.seq fun _ k2=>T.region (au 2 ?_)
 obtain ⟨x1,hx1,H⟩:=bindE H
 refine rq (Qt.call (vs:=[_,_]) ent169 rfl fun w s=>slices_IndexFuncB_walk a0_s a1_f w ((Rd.base h0) w s) (FnQ.ext s.ext h1) hx1) (au 2 ?_)
 refine RS.nil (k2 _ _ (kq [4] ?_))
 obtain rfl:=sj H
 refine T.rt (Cont.ret1 rfl rfl fun w' s=>?_)
 exact ⟨rfl,s.ext⟩
theorem ground_Side_walk (a0_n:Int) (w:World) {r:Bool} (H:ground_Side a0_n = some r):Calls Tryz.prog 63 #[.int .i64 a0_n] w fun e w'=>e = .returned (.bool r)∧Ext w w':=by
 unfold ground_Side at H
 refine te Tryz.func63 (Sat.start w) ?_
 refine au 2 ?_
 refine T.seq fun _ k2=>T.region (au 3 ?_)
 refine RS.joinV 3 8 (.bool (decide ((1 ≤ a0_n)∧(a0_n ≤ 128)))) [(2,_)] sb ?_ ?_
 ·refine rA rfl (RS.nil (k2 _ _ ?_))
  obtain rfl:=sj H
  refine T.rt (Cont.ret1 rfl rfl fun w' s=>?_)
  exact ⟨rfl,s.ext⟩
 intro hJ2
 refine RS.splitP 5 rfl (fun hc1=>?_) (fun hc1=>?_)
 ·refine au 3 ?_
  exact hJ2 _ _ ⟨dAndT hc1,rfl,trivial⟩ (fun w s=>s)
 refine au 3 ?_
 exact hJ2 _ _ ⟨dAndF hc1,rfl,trivial⟩ (fun w s=>s)
theorem ground_May_walk (a0_g:Grd) (w:World) {v0:Value} (h0:R (hpOf w) a0_g.tiles [v0]) {r:Bool} (H:ground_May a0_g = some r):Calls Tryz.prog 31 #[.agg #[.int .i64 a0_g.w,.int .i64 a0_g.h,v0]] w fun e w'=>e = .returned (.bool r)∧Ext w w':=by
 have hm0:=R_max h0
 obtain ⟨p0,c0,rfl⟩:=R_form h0
 unfold ground_May at H
 refine te Tryz.func31 (Sat.start w) ?_
 refine T.seq fun _ k1=>T.region (RS.solid (Sd.box (cs:=[_,_,_]) rfl rfl) rfl rfl fun b1=>rA rfl (RS.nil (k1 _ _ ?_)))
 refine T.seq fun _ k2=>T.seq fun _ k3=>T.region (au 2 ?_)
 obtain ⟨x2,hx2,H⟩:=bindE H
 refine rq (Qt.call (vs:=[_]) ent63 rfl fun w s=>ground_Side_walk a0_g.w w  hx2) (au 2 ?_)
 refine RS.joinB H 5 12 (fun b5=>.bool b5) [(1,_)] sb ?_ ?_
 ·intro b5 H
  refine rM rfl ?_
  obtain ⟨g8,H⟩:=gdE H
  refine RS.joinV 10 23 (.bool (decide ((b5 = true) ∨ (¬ (a0_g.tiles.length:Int) = (a0_g.w * a0_g.h))))) [(1,_)] sb ?_ ?_
  ·refine RS.nil (k3 _ _ ?_)
   refine T.cP H rfl (fun hc9 H=>?_) (fun hc9 H=>?_)
   ·refine au 2 ?_
    obtain rfl:=sj H
    refine T.rt (Cont.ret1 rfl rfl fun w' s=>?_)
    exact ⟨rfl,s.ext⟩
   refine T.skip (k2 _ _ ?_)
   refine T.seq fun _ k5=>T.region (au 2 ?_)
   obtain ⟨x10,hx10,H⟩:=bindE H
   refine rq (Qt.call (vs:=[_]) ent64 rfl fun w s=>slices_Max_walk a0_g.tiles w ((Rd.base h0) w s) hx10) (au 2 ?_)
   refine RS.nil (k5 _ _ (kq [2] ?_))
   obtain rfl:=sj H
   refine T.rt (Cont.ret1 rfl rfl fun w' s=>?_)
   exact ⟨rfl,s.ext⟩
  intro hJ7
  refine RS.split 13 rfl (fun hc6=>?_) (fun hc6=>?_)
  ·refine au 10 ?_
   exact hJ7 _ _ ⟨dOrT hc6,rfl,trivial⟩ (fun w s=>s)
  refine au 7 ?_
  refine rp (Pu.mulS rfl rfl (g8 (bne_of hc6))) (au 2 ?_)
  exact hJ7 _ _ ⟨dOrF (bne_of hc6),rfl,trivial⟩ (fun w s=>s)
 intro z11 H hJ4
 refine RS.split 7 rfl (fun hc3=>?_) (fun hc3=>?_)
 ·have H:=ifT hc3 H
  refine au 5 ?_
  obtain rfl:=sj H
  exact hJ4 _ _ sb (fun w s=>s)
 have H:=ifB hc3 H
 refine au 2 ?_
 obtain ⟨x12,hx12,H⟩:=bindE H
 refine rq (Qt.call (vs:=[_]) ent63 rfl fun w s=>ground_Side_walk a0_g.h w  hx12) (au 2 ?_)
 obtain rfl:=sj H
 exact hJ4 _ _ sb (fun w s=>s)
end Go.Proofs.YtmngdgclldkcfaaGreat
set_option linter.unusedVariables false
set_option linter.unusedSimpArgs false
set_option maxRecDepth 20000
set_option maxHeartbeats 4000000
namespace Go.Proofs.YtmngdgclldkcfaaGreat
open Go.Vg
open Enc (R)
theorem ent16:Ent Tryz.prog 16:=en Tryz.func16
theorem ent164:Ent Tryz.prog 164:=en Tryz.func164
theorem ent168:Ent Tryz.prog 168:=en Tryz.func168
instance ty24:TyC Tryz.prog 24 (3,true):={}
theorem zr4:zeroOf Tryz.prog 4 = some (.bool false):=by kernel_rfl
theorem build_Tiles_walk (a0_g:Grd) (a1_b:Bld) (w:World) {v0:Value} (h0:R (hpOf w) a0_g.tiles [v0]) {r:List Int} (H:build_Tiles a0_g a1_b = some r):Calls Tryz.prog 168 #[.agg #[.int .i64 a0_g.w,.int .i64 a0_g.h,v0],.agg #[.int .i64 a1_b.id,.int .i64 a1_b.owner,.int .i64 a1_b.x,.int .i64 a1_b.y,.int .i64 a1_b.w,.int .i64 a1_b.h]] w fun e w'=>∃ q1:(Option Nat × Nat),e = .returned (rowV q1 r.length)∧Sat w [row nilH 3 (rowV q1 r.length) r] w':=by
 have hm0:=R_max h0
 obtain ⟨p0,c0,rfl⟩:=R_form h0
 unfold build_Tiles at H
 refine te Tryz.func168 (Sat.start w) ?_
 refine T.seq fun _ k1=>?_
 exact nomatch H
theorem build_rising_walk (a0_l:List Bld) (w:World) {v0:Value} (h0:R (hpOf w) a0_l [v0]) {r:Bool} (H:build_rising a0_l = some r):Calls Tryz.prog 164 #[v0] w fun e w'=>e = .returned (.bool r)∧Ext w w':=by
 have hm0:=R_max h0
 obtain ⟨p0,c0,rfl⟩:=R_form h0
 unfold build_rising at H
 refine te Tryz.func164 (Sat.start w) ?_
 refine au 2 ?_
 refine T.seq fun _ k2=>au 2 ?_
 refine T.joinE (σ:=Unit) (γ:=Unit) H Ex.go [] trivial (fun _ _=>[]) (fun _ _=>Sat w []) ?_ ?_
 ·rintro ⟨⟩ ⟨⟩ H
  try dsimp only [Ex.then] at H
  refine Cont.kq [] ?_
  refine id (k2 _ _ ?_)
  refine au 2 ?_
  obtain rfl:=sj H
  refine T.rt (Cont.ret1 rfl rfl fun w' s=>?_)
  exact ⟨rfl,s.ext⟩
 intro z1 hz1 HX1 hJ1
 refine T.block ?_
 refine T.loopA (γ:=Unit) hz1 [(0,_)] (fun v2 _=>[(3,.int .i64 v2)]) (fun v2 _=>Sat w []) () sb sb (fun w s=>s) ?_
 rintro v2 ⟨⟩ y3 H hd1 KL1 hL1
 try dsimp only [Ex.then] at H
 refine kq [3,0] ?_
 refine T.seq fun _ k5=>au 5 ?_
 refine T.cP H rfl (fun _ H=>nomatch H) (fun hc4 H=>?_)
 obtain rfl:=hd1 _ H
 refine T.xt (hJ1 _ _ () () HX1 trivial trivial (fun w s=>s))
theorem build_May_walk (a0_g:Grd) (a1_l:List Bld) (w:World) {v0 v1:Value} (h0:R (hpOf w) a0_g.tiles [v0]) (h1:R (hpOf w) a1_l [v1]) {r:Bool} (H:build_May a0_g a1_l = some r):Calls Tryz.prog 111 #[.agg #[.int .i64 a0_g.w,.int .i64 a0_g.h,v0],v1] w fun e w'=>e = .returned (.bool r)∧Ext w w':=by
 have hm0:=R_max h0
 obtain ⟨p0,c0,rfl⟩:=R_form h0
 have hm1:=R_max h1
 obtain ⟨p1,c1,rfl⟩:=R_form h1
 unfold build_May at H
 refine te Tryz.func111 (Sat.start w) ?_
 refine T.seq fun _ k1=>T.region (RS.solid (Sd.box (cs:=[_,_,_]) rfl rfl) rfl rfl fun b1=>rA rfl (RS.nil (k1 _ _ ?_)))
 refine T.seq fun _ k2=>T.seq fun _ k3=>T.region (au 4 ?_)
 refine RS.joinB H 4 17 (fun b4=>.bool b4) [(1,_),(2,_)] sb ?_ ?_
 ·intro b4 H
  refine RS.nil (k3 _ _ ?_)
  refine T.cB H rfl (fun _ H=>nomatch H) (fun hc5 H=>?_)
  refine T.skip (k2 _ _ ?_)
  refine T.seq fun _ k5=>T.region (au 3 ?_)
  obtain ⟨g7,H⟩:=gdE H
  refine RS.solid (Sd.make (α:=Bool) (B:=nilH) false sl41.h zr4 rfl (by decide) rfl rfl (by omega) (by omega) (by omega)) rfl rfl fun b6=>rA rfl (RS.nil (k5 _ _ (kq [1,2,5] ?_)))
  refine T.seq fun _ k6=>au 4 ?_
  refine T.joinE (σ:=Unit) (γ:=Unit) H Ex.go [] trivial (fun _ _=>[]) (fun _ _=>Sat w [blk b1 [.int .i64 a0_g.w,.int .i64 a0_g.h,.slice p0 a0_g.tiles.length c0] 24,row nilH 4 (rowV (some b6,(a0_g.tiles.length:Int).toNat) ((a0_g.tiles.length:Int).toNat)) (List.replicate (a0_g.tiles.length:Int).toNat false)]) ?_ ?_
  ·rintro ⟨⟩ ⟨⟩ H
   try dsimp only [Ex.then] at H
   refine Cont.kq [] ?_
   refine id (k6 _ _ ?_)
   refine au 2 ?_
   obtain rfl:=sj H
   refine T.rt (Cont.ret1 rfl rfl fun w' s=>?_)
   exact ⟨rfl,s.ext⟩
  intro z8 hz8 HX8 hJ8
  refine T.block ?_
  refine T.loopA (γ:=Unit) hz8 [(2,_),(5,_),(22,_),(23,_)] (fun v9 _=>[(24,.int .i64 v9)]) (fun v9 _=>Sat w [blk b1 [.int .i64 a0_g.w,.int .i64 a0_g.h,.slice p0 a0_g.tiles.length c0] 24,row nilH 4 (rowV (some b6,(a0_g.tiles.length:Int).toNat) ((a0_g.tiles.length:Int).toNat)) (List.replicate (a0_g.tiles.length:Int).toNat false)]) () sb sb (fun w s=>s) ?_
  rintro v9 ⟨⟩ y10 H hd8 KL8 hL8
  try dsimp only [Ex.then] at H
  refine kq [24,2,5,22,23] ?_
  refine au 2 ?_
  refine T.seq fun _ k10=>?_
  refine T.cP H rfl (fun _ H=>nomatch H) (fun hc11 H=>?_)
  obtain rfl:=hd8 _ H
  refine T.xt (hJ8 _ _ () () HX8 trivial trivial (fun w s=>s))
 intro z12 H hJ3
 refine RS.splitP 13 rfl (fun hc2=>?_) (fun hc2=>?_)
 ·have H:=ifT hc2 H
  refine au 4 ?_
  obtain rfl:=sj H
  exact hJ3 _ _ sb (fun w s=>s)
 have H:=ifF hc2 H
 refine rM rfl ?_
 obtain ⟨x13,hx13,H⟩:=bindE H
 refine rq (Qt.call (vs:=[_]) ent164 rfl fun w s=>build_rising_walk a1_l w ((Rd.base h1) w s) hx13) (au 2 ?_)
 obtain rfl:=sj H
 exact hJ3 _ _ sb (fun w s=>s)
theorem build_Cover_walk (a0_g:Grd) (a1_l:List Bld) (w:World) {v0 v1:Value} (h0:R (hpOf w) a0_g.tiles [v0]) (h1:R (hpOf w) a1_l [v1]) {r:List Bool} (H:build_Cover a0_g a1_l = some r):Calls Tryz.prog 244 #[.agg #[.int .i64 a0_g.w,.int .i64 a0_g.h,v0],v1] w fun e w'=>∃ q1:(Option Nat × Nat),e = .returned (rowV q1 r.length)∧Sat w [row nilH 4 (rowV q1 r.length) r] w':=by
 have hm0:=R_max h0
 obtain ⟨p0,c0,rfl⟩:=R_form h0
 have hm1:=R_max h1
 obtain ⟨p1,c1,rfl⟩:=R_form h1
 unfold build_Cover at H
 refine te Tryz.func244 (Sat.start w) ?_
 refine T.seq fun _ k1=>T.region (RS.solid (Sd.box (cs:=[_,_,_]) rfl rfl) rfl rfl fun b1=>rA rfl (RS.nil (k1 _ _ ?_)))
 refine T.seq fun _ k2=>T.region (au 3 ?_)
 obtain ⟨g3,H⟩:=gdE H
 refine RS.solid (Sd.make (α:=Bool) (B:=nilH) false sl41.h zr4 rfl (by decide) rfl rfl (by omega) (by omega) (by omega)) rfl rfl fun b2=>rA rfl (RS.nil (k2 _ _ (kq [1,2,5] ?_)))
 refine T.seq fun _ k3=>au 4 ?_
 refine T.joinE (σ:=List Bool) (γ:=Unit) H (fun s=>s) [(5,_)] sb (fun v5 _=>[]) (fun v5 _=>Sat w [blk b1 [.int .i64 a0_g.w,.int .i64 a0_g.h,.slice p0 a0_g.tiles.length c0] 24,row nilH 4 (rowV (some b2,(a0_g.tiles.length:Int).toNat) ((a0_g.tiles.length:Int).toNat)) v5]) ?_ ?_
 ·rintro v5 ⟨⟩ H
  try dsimp only [Ex.then] at H
  refine Cont.kq [5] ?_
  refine id (k3 _ _ ?_)
  refine au 3 ?_
  obtain rfl:=sj H
  refine T.rt (Cont.ret1 rfl rfl fun w' s=>?_)
  exact ⟨(some b2,(a0_g.tiles.length:Int).toNat),(by simp only [(s.row_fits (q:=(some b2,(a0_g.tiles.length:Int).toNat)) (m:=(a0_g.tiles.length:Int).toNat) (k:=1) rfl).1]; try rfl),(Sat.relen (q:=(some b2,(a0_g.tiles.length:Int).toNat)) (m:=(a0_g.tiles.length:Int).toNat) 1 s rfl).pick [1] (by decide) rfl⟩
 intro z4 hz4 HX4 hJ4
 refine T.block ?_
 refine T.loopA (γ:=Unit) hz4 [(2,_),(5,_),(14,_),(15,_)] (fun (v6,l7) _=>[(16,.int .i64 v6)]) (fun (v6,l7) _=>Sat w [blk b1 [.int .i64 a0_g.w,.int .i64 a0_g.h,.slice p0 a0_g.tiles.length c0] 24,row nilH 4 (rowV (some b2,(a0_g.tiles.length:Int).toNat) ((a0_g.tiles.length:Int).toNat)) l7]) () sb sb (fun w s=>s) ?_
 rintro ⟨v6,l7⟩ ⟨⟩ y8 H hd4 KL4 hL4
 try dsimp only [Ex.then] at H
 refine kq [16,2,5,14,15] ?_
 refine au 2 ?_
 refine T.seq fun _ k7=>?_
 refine T.cP H rfl (fun hc9 H=>?_) (fun hc9 H=>?_)
 ·refine T.skip (k7 _ _ ?_)
  refine T.seq fun _ k8=>T.block (T.seq fun _ k9=>T.region ?_)
  obtain ⟨g10,H⟩:=gdE H
  obtain ⟨bl11,ol12,rfl⟩:=R_ptr h1 (ne_of_pos (pos_of g10))
  refine rp (Pu.indexSl sl49.h rfl rfl g10) (rq (Qt.ldW (α:=Bld) (cs:=[_,_,_,_,_,_]) (Rd.base h1) ty135.h rfl rfl g10 rfl (by rintro _ _ rfl; rfl)) (RS.solid (Sd.alloc zr135 rfl) rfl rfl fun b13=>RS.solid (Sd.stB (cs':=[_,_,_,_,_,_]) 2 ty135.h rfl rfl rfl rfl rfl rfl rfl rfl) rfl rfl fun _=>RS.nil (k9 _ _ (kq [2,5,7,14,15,16] ?_))))
  refine T.seq fun _ k10=>T.region (au 2 ?_)
  obtain ⟨x14,hx14,H⟩:=bindE H
  refine RS.solid (Sd.callN (vs:=[_,_]) ent168 rfl (fun w s=>build_Tiles_walk a0_g (gi a1_l v6) w ((Rd.base h0) w s) hx14)) rfl rfl fun q15=>au 2 ?_
  refine RS.nil (k10 _ _ (kq [2,5,14,15,16,22,23,24] ?_))
  refine T.joinE (σ:=List Bool) (γ:=Unit) H (fun s=>s) [(2,_),(5,_),(14,_),(15,_),(16,_)] sb (fun v17 _=>[]) (fun v17 _=>Sat w [blk b1 [.int .i64 a0_g.w,.int .i64 a0_g.h,.slice p0 a0_g.tiles.length c0] 24,row nilH 4 (rowV (some b2,(a0_g.tiles.length:Int).toNat) ((a0_g.tiles.length:Int).toNat)) v17,blk b13 [.int .i64 ((gi a1_l v6).id),.int .i64 ((gi a1_l v6).owner),.int .i64 ((gi a1_l v6).x),.int .i64 ((gi a1_l v6).y),.int .i64 ((gi a1_l v6).w),.int .i64 ((gi a1_l v6).h)] 135,row nilH 3 (rowV q15 x14.length) x14]) ?_ ?_
  ·rintro v17 ⟨⟩ H
   try dsimp only [Ex.then] at H
   refine Cont.kq [2,5,14,15,16] ?_
   refine id (k8 _ _ ?_)
   refine T.region ?_
   obtain ⟨g18,H⟩:=gdE H
   refine rp (Pu.addS rfl rfl g18) (rM rfl (RS.nil (hL4 _ _ ((v6 + 1),v17) () H sb sb (fun w s=>s.pc [0,1]))))
  intro z16 hz16 HX16 hJ16
  refine T.block ?_
  refine T.loopA (γ:=Unit) hz16 [(2,_),(5,_),(14,_),(15,_),(16,_),(22,_),(23,_)] (fun (v19,l20) _=>[(24,.int .i64 v19)]) (fun (v19,l20) _=>Sat w [blk b1 [.int .i64 a0_g.w,.int .i64 a0_g.h,.slice p0 a0_g.tiles.length c0] 24,row nilH 4 (rowV (some b2,(a0_g.tiles.length:Int).toNat) ((a0_g.tiles.length:Int).toNat)) l20,blk b13 [.int .i64 ((gi a1_l v6).id),.int .i64 ((gi a1_l v6).owner),.int .i64 ((gi a1_l v6).x),.int .i64 ((gi a1_l v6).y),.int .i64 ((gi a1_l v6).w),.int .i64 ((gi a1_l v6).h)] 135,row nilH 3 (rowV q15 x14.length) x14]) () sb sb (fun w s=>s) ?_
  rintro ⟨v19,l20⟩ ⟨⟩ y21 H hd16 KL16 hL16
  try dsimp only [Ex.then] at H
  refine kq [24,2,5,14,15,16,22,23] ?_
  refine au 2 ?_
  refine T.seq fun _ k12=>?_
  refine T.cP H rfl (fun hc22 H=>?_) (fun hc22 H=>?_)
  ·refine T.skip (k12 _ _ ?_)
   refine T.seq fun _ k13=>T.block (T.seq fun _ k14=>T.region ?_)
   obtain ⟨g23,H⟩:=gdE H
   refine RS.know (p:=∃ g cap,q15 = (some g,cap)) (fun w s=>(s.row_some (k:=3) rfl (pos_of g23))) ?_
   rintro ⟨gg24,cc25,rfl⟩
   refine rp (Pu.indexSl sl35.h rfl rfl g23) (rq (Qt.ld0 (α:=Int) (Rd.ofRowN 3 rfl) ty3.h rfl rfl g23 (by rintro _ _ rfl; rfl)) (rA rfl (RS.nil (k14 _ _ (kq [2,5,9,14,15,16,22,23,24] ?_)))))
   refine T.region (au 2 ?_)
   obtain ⟨g26,H⟩:=gdE H
   refine RS.know (fun w s=>(s.row_fits (q:=(some b2,(a0_g.tiles.length:Int).toNat)) (m:=(a0_g.tiles.length:Int).toNat) (k:=1) rfl)) fun hf27=>?_
   refine rp (Pu.indexSl sl41.h rfl rfl g26) (RS.solid (Sd.st0 (α:=Bool) 1 true rfl ty4.h rfl rfl rfl (idx_of hf27.1 g26) rfl rfl (by decide) rfl (by rintro _ _ rfl; rfl)) rfl rfl fun _=>RS.nil (k13 _ _ (kq [2,5,14,15,16,22,23,24] ?_)))
   refine T.region ?_
   obtain ⟨g28,H⟩:=gdE H
   refine rp (Pu.addS rfl rfl g28) (rM rfl (RS.nil (hL16 _ _ ((v19 + 1),(si l20 (gi x14 v19) true)) () H sb sb (fun w s=>s))))
  obtain rfl:=hd16 _ H
  refine T.xt (hJ16 _ _ l20 () HX16 sb trivial (fun w s=>s))
 obtain rfl:=hd4 _ H
 refine T.xt (hJ4 _ _ l7 () HX4 sb trivial (fun w s=>s))
theorem throngref5_Ground_walk (a0_g:Grd) (w:World) {v0:Value} (h0:R (hpOf w) a0_g.tiles [v0]) {r:Bool} (H:throngref5_Ground a0_g = some r):Calls Tryz.prog 16 #[.agg #[.int .i64 a0_g.w,.int .i64 a0_g.h,v0]] w fun e w'=>e = .returned (.bool r)∧Ext w w':=by
 have hm0:=R_max h0
 obtain ⟨p0,c0,rfl⟩:=R_form h0
 unfold throngref5_Ground at H
 refine te Tryz.func16 (Sat.start w) ?_
 refine T.seq fun _ k1=>T.region (RS.solid (Sd.box (cs:=[_,_,_]) rfl rfl) rfl rfl fun b1=>rA rfl (RS.nil (k1 _ _ ?_)))
 refine T.seq fun _ k2=>T.seq fun _ k3=>T.region (au 4 ?_)
 refine RS.joinV 4 11 (.bool (decide ((a0_g.w < 1) ∨ (128 < a0_g.w)))) [(1,_)] sb ?_ ?_
 ·refine rM rfl ?_
  refine RS.joinV 4 16 (.bool (decide (((a0_g.w < 1) ∨ (128 < a0_g.w)) ∨ (a0_g.h < 1)))) [(1,_)] sb ?_ ?_
  ·refine rM rfl ?_
   refine RS.joinV 4 21 (.bool (decide ((((a0_g.w < 1) ∨ (128 < a0_g.w)) ∨ (a0_g.h < 1)) ∨ (128 < a0_g.h)))) [(1,_)] sb ?_ ?_
   ·refine rM rfl ?_
    obtain ⟨g10,H⟩:=gdE H
    refine RS.joinV 10 32 (.bool (decide (((((a0_g.w < 1) ∨ (128 < a0_g.w)) ∨ (a0_g.h < 1)) ∨ (128 < a0_g.h)) ∨ (¬ (a0_g.tiles.length:Int) = (a0_g.w * a0_g.h))))) [(1,_)] sb ?_ ?_
    ·refine RS.nil (k3 _ _ ?_)
     refine T.cP H rfl (fun hc11 H=>?_) (fun hc11 H=>?_)
     ·refine au 2 ?_
      obtain rfl:=sj H
      refine T.rt (Cont.ret1 rfl rfl fun w' s=>?_)
      exact ⟨rfl,s.ext⟩
     refine T.skip (k2 _ _ ?_)
     refine T.seq fun _ k5=>au 2 ?_
     refine T.joinE (σ:=Unit) (γ:=Unit) H Ex.go [] trivial (fun _ _=>[]) (fun _ _=>Sat w [blk b1 [.int .i64 a0_g.w,.int .i64 a0_g.h,.slice p0 a0_g.tiles.length c0] 24]) ?_ ?_
     ·rintro ⟨⟩ ⟨⟩ H
      try dsimp only [Ex.then] at H
      refine Cont.kq [] ?_
      refine id (k5 _ _ ?_)
      refine au 2 ?_
      obtain rfl:=sj H
      refine T.rt (Cont.ret1 rfl rfl fun w' s=>?_)
      exact ⟨rfl,s.ext⟩
     intro z12 hz12 HX12 hJ12
     refine T.block ?_
     refine T.loopA (γ:=Unit) hz12 [(1,_)] (fun v13 _=>[(3,.int .i64 v13)]) (fun v13 _=>Sat w [blk b1 [.int .i64 a0_g.w,.int .i64 a0_g.h,.slice p0 a0_g.tiles.length c0] 24]) () sb sb (fun w s=>s) ?_
     rintro v13 ⟨⟩ y14 H hd12 KL12 hL12
     try dsimp only [Ex.then] at H
     refine kq [3,1] ?_
     refine T.seq fun _ k8=>au 6 ?_
     refine T.cP H rfl (fun hc15 H=>?_) (fun hc15 H=>?_)
     ·refine T.skip (k8 _ _ (kq [1,3] ?_))
      refine T.seq fun _ k10=>T.block (T.seq fun _ k11=>T.region (au 3 ?_))
      obtain ⟨g16,H⟩:=gdE H
      obtain ⟨bl17,ol18,rfl⟩:=R_ptr h0 (ne_of_pos (pos_of g16))
      refine rp (Pu.indexSl sl22.h rfl rfl g16) (rq (Qt.ld0 (α:=UInt8) (Rd.base h0) ty5.h rfl rfl g16 (by rintro _ _ rfl; rfl)) (rp (Pu.bin rfl rfl rfl) (RS.nil (k11 _ _ ?_))))
      refine T.cP H rfl (fun hc19 H=>?_) (fun hc19 H=>?_)
      ·refine kq [] ?_
       refine au 2 ?_
       obtain rfl:=hd12 _ H
       have H:=HX12
       obtain rfl:=sj H
       refine T.rt (Cont.ret1 rfl rfl fun w' s=>?_)
       exact ⟨rfl,s.ext⟩
      refine T.skip (k10 _ _ (kq [1,3] ?_))
      refine T.region (rM rfl ?_)
      obtain ⟨g20,H⟩:=gdE H
      refine rp (Pu.addS rfl rfl g20) (rA rfl (RS.nil (hL12 _ _ (v13 + 1) () H sb sb (fun w s=>s))))
     obtain rfl:=hd12 _ H
     refine T.xt (hJ12 _ _ () () HX12 trivial trivial (fun w s=>s))
    intro hJ9
    refine RS.splitP 22 rfl (fun hc8=>?_) (fun hc8=>?_)
    ·refine au 10 ?_
     exact hJ9 _ _ ⟨dOrT hc8,rfl,trivial⟩ (fun w s=>s)
    refine au 7 ?_
    refine rp (Pu.mulS rfl rfl (g10 hc8)) (au 2 ?_)
    exact hJ9 _ _ ⟨dOrF hc8,rfl,trivial⟩ (fun w s=>s)
   intro hJ7
   refine RS.splitP 17 rfl (fun hc6=>?_) (fun hc6=>?_)
   ·refine au 4 ?_
    exact hJ7 _ _ ⟨dOrT hc6,rfl,trivial⟩ (fun w s=>s)
   refine au 4 ?_
   exact hJ7 _ _ ⟨dOrF hc6,rfl,trivial⟩ (fun w s=>s)
  intro hJ5
  refine RS.splitP 12 rfl (fun hc4=>?_) (fun hc4=>?_)
  ·refine au 4 ?_
   exact hJ5 _ _ ⟨dOrT hc4,rfl,trivial⟩ (fun w s=>s)
  refine au 4 ?_
  exact hJ5 _ _ ⟨dOrF hc4,rfl,trivial⟩ (fun w s=>s)
 intro hJ3
 refine RS.splitP 7 rfl (fun hc2=>?_) (fun hc2=>?_)
 ·refine au 4 ?_
  exact hJ3 _ _ ⟨dOrT hc2,rfl,trivial⟩ (fun w s=>s)
 refine au 4 ?_
 exact hJ3 _ _ ⟨dOrF hc2,rfl,trivial⟩ (fun w s=>s)
end Go.Proofs.YtmngdgclldkcfaaGreat
set_option linter.unusedVariables false
set_option linter.unusedSimpArgs false
set_option maxRecDepth 20000
set_option maxHeartbeats 4000000
namespace Go.Proofs.YtmngdgclldkcfaaGreat
open Go.Vg
open Enc (R)
theorem usl41:Tryz.prog.underlying 41 = some (.slice 4):=by kernel_rfl
structure Itm where
 key:Int
 val:Int
 deriving Inhabited,DecidableEq
def Itm.Wf (x:Itm):Prop:=(I64 x.key)∧(I64 x.val)
structure Net where
 g:Grd
 cls:Int
 free:List Bool
 deriving Inhabited
def Net.Wf (x:Net):Prop:=(Grd.Wf x.g)∧(I64 x.cls)∧((∀ y ∈ x.free,True)∧x.free.length ≤ 140737488351232)
end Go.Proofs.YtmngdgclldkcfaaGreat
set_option linter.unusedVariables false
set_option linter.unusedSimpArgs false
set_option maxRecDepth 20000
set_option maxHeartbeats 4000000
namespace Go.Proofs.YtmngdgclldkcfaaGreat
open Go.Vg
open Enc (R)
theorem co2:Tryz.prog.cellsOf 2 = 1:=by kernel_rfl
theorem co33:Tryz.prog.cellsOf 33 = 2:=by kernel_rfl
theorem uf33:structOf Tryz.prog 33 = some [(2,0),(2,1)]:=by kernel_rfl
theorem ul112:Tryz.prog.underlying 112 = some (.int .u64):=by kernel_rfl
theorem ul2:Tryz.prog.underlying 2 = some (.int .i64):=by kernel_rfl
structure Vec where
 x:Int
 y:Int
 deriving Inhabited,DecidableEq
theorem eq_Vec (x y:Vec):(x.x == y.x && (x.y == y.y && (true))) = decide (x = y):=by
 obtain ⟨a0,a1⟩:=x
 obtain ⟨b0,b1⟩:=y
 simp only [Vec.mk.injEq,Bool.and_true,beq_iff_eq,Bool.decide_and]
 simp only [Bool.beq_eq_decide_eq]
instance:Enc Vec where
 sz:=2
 R h x cs:=cs = [.int .i64 x.x,.int .i64 x.y]
 len:=fun e=>by rw [e]; rfl
 one:=fun e u hu=>by
  rw [e] at hu; simp only [List.mem_cons,List.not_mem_nil,or_false] at hu
  rcases hu with rfl | rfl
  ·rfl
  ·rfl
 mono:=fun hl e=>e
def Vec.Wf (x:Vec):Prop:=(I64 x.x)∧(I64 x.y)
theorem rd_Vec:Rdbl Tryz.prog 33 Vec Vec.Wf:=fun H enc w fuel cs x h hzd=>by
 obtain ⟨fs,hu,hfs⟩:=structOf_spec uf33
 obtain ⟨hl,m,hf⟩:=trod_field hu h hzd
 obtain ⟨f0,hf0,ht0,ho0⟩:∃ f,fs[0]? = some f∧f.type = 2∧f.offset = 0:=by
  have h1:(fs.toList.map (fun f=>(f.type,f.offset)))[0]? = some (2,0):=by rw [hfs]; rfl
  rw [List.getElem?_map,Option.map_eq_some_iff] at h1
  obtain ⟨f,h2,h3⟩:=h1
  simp only [Prod.mk.injEq] at h3
  exact ⟨f,by simpa using h2,h3.1,h3.2⟩
 obtain ⟨y0,hy0⟩:=hf 0 f0 hf0
 rw [ht0,ho0,co2] at hy0
 obtain ⟨a0,ha0,hw0⟩:=Rdbl.part (Rdbl.int ul2) hy0
 obtain ⟨f1,hf1,ht1,ho1⟩:∃ f,fs[1]? = some f∧f.type = 2∧f.offset = 1:=by
  have h1:(fs.toList.map (fun f=>(f.type,f.offset)))[1]? = some (2,1):=by rw [hfs]; rfl
  rw [List.getElem?_map,Option.map_eq_some_iff] at h1
  obtain ⟨f,h2,h3⟩:=h1
  simp only [Prod.mk.injEq] at h3
  exact ⟨f,by simpa using h2,h3.1,h3.2⟩
 obtain ⟨y1,hy1⟩:=hf 1 f1 hf1
 rw [ht1,ho1,co2] at hy1
 obtain ⟨a1,ha1,hw1⟩:=Rdbl.part (Rdbl.int ul2) hy1
 rw [co33] at hl
 obtain ⟨x0,x1,rfl⟩:∃ x0 x1,cs = [x0,x1]:=by
  match cs,hl with
  | [x0,x1],_=>exact ⟨x0,x1,rfl⟩
 simp only [List.drop_succ_cons,List.drop_zero,List.take_succ_cons,List.take_zero] at ha0 ha1
 obtain rfl:x0 = _:=by simpa [Enc.R] using ha0
 obtain rfl:x1 = _:=by simpa [Enc.R] using ha1
 exact ⟨⟨a0,a1⟩,rfl,⟨hw0,hw1⟩⟩
structure Knd where
 radius:Int
 speed:Int
 cls:Int
 size:Int
 room:Int
 deriving Inhabited,DecidableEq
def Knd.Wf (x:Knd):Prop:=(I64 x.radius)∧(I64 x.speed)∧(I64 x.cls)∧(I64 x.size)∧(I64 x.room)
structure Unt where
 id:Int
 owner:Int
 kind:Int
 pos:Vec
 goal:Int
 next:Int
 stuck:Int
 inn:Int
 state:Int
 deriving Inhabited,DecidableEq
instance:Enc Unt where
 sz:=10
 R h x cs:=cs = [.int .i64 x.id,.int .i64 x.owner,.int .i64 x.kind,.int .i64 x.pos.x,.int .i64 x.pos.y,.int .i64 x.goal,.int .i64 x.next,.int .i64 x.stuck,.int .i64 x.inn,.int .i64 x.state]
 len:=fun e=>by rw [e]; rfl
 one:=fun e u hu=>by
  rw [e] at hu; simp only [List.mem_cons,List.not_mem_nil,or_false] at hu
  rcases hu with rfl | rfl | rfl | rfl | rfl | rfl | rfl | rfl | rfl | rfl
  ·rfl
  ·rfl
  ·rfl
  ·rfl
  ·rfl
  ·rfl
  ·rfl
  ·rfl
  ·rfl
  ·rfl
 mono:=fun hl e=>e
instance:Flat Unt:=⟨fun h=>h⟩
def Unt.Wf (x:Unt):Prop:=(I64 x.id)∧(I64 x.owner)∧(I64 x.kind)∧(Vec.Wf x.pos)∧(I64 x.goal)∧(I64 x.next)∧(I64 x.stuck)∧(I64 x.inn)∧(I64 x.state)
structure Wid where
 hi:Int
 lo:Int
 deriving DecidableEq,Inhabited
end Go.Proofs.YtmngdgclldkcfaaGreat
