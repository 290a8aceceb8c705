/-
  Texts of one's own, joined: IG YG LH.
-/
import Derived.Test.YtmngdgclldkcfaaGreatRows
import Derived.Test.YtmngdgclldkcfaaGreatJ13
import Derived.Test.YtmngdgclldkcfaaGreatJ14
import Derived.Test.YtmngdgclldkcfaaGreatJ6
import Derived.Test.YtmngdgclldkcfaaGreatJ7
import Derived.Test.YtmngdgclldkcfaaGreatFI
set_option linter.unusedVariables false
set_option linter.unusedSimpArgs false
set_option maxRecDepth 20000
set_option maxHeartbeats 4000000
namespace Go.Proofs.YtmngdgclldkcfaaGreat
open Go.Vg
open Enc (R)
theorem ent230:Ent Tryz.prog 230:=⟨_,_,Tryz.func230,by kernel_rfl,rfl⟩
theorem ent231:Ent Tryz.prog 231:=⟨_,_,Tryz.func231,by kernel_rfl,rfl⟩
theorem ent232:Ent Tryz.prog 232:=⟨_,_,Tryz.func232,by kernel_rfl,rfl⟩
theorem ent273:Ent Tryz.prog 273:=⟨_,_,Tryz.func273,by kernel_rfl,rfl⟩
theorem ent274:Ent Tryz.prog 274:=⟨_,_,Tryz.func274,by kernel_rfl,rfl⟩
theorem ent275:Ent Tryz.prog 275:=⟨_,_,Tryz.func275,by kernel_rfl,rfl⟩
theorem ent276:Ent Tryz.prog 276:=⟨_,_,Tryz.func276,by kernel_rfl,rfl⟩
theorem ent309:Ent Tryz.prog 309:=⟨_,_,Tryz.func309,by kernel_rfl,rfl⟩
theorem u8_5:Tryz.prog.underlying 5 = some (.int .u8):=by kernel_rfl
theorem us5:(Tryz.prog.underlying 5).isSome = true:=by kernel_rfl
theorem zr22:zeroOf Tryz.prog 22 = some (.slice none 0 0):=by kernel_rfl
def wire_Put (a0_b:List UInt8) (a1_n:Int):Option (List UInt8) :=
  Option.bind (α:=Int) (loop (σ:=Int) (β:=Int) (fun v6 =>
  if 128 ≤ v6 then
  none
  else
  some (St.done v6)) a1_n) fun v2 =>
  if a0_b.length < 1099511627776 then
  some (a0_b ++ [(UInt8.ofNat (v2 % 256).toNat)])
  else none
def wire_Raw (a0_b:List UInt8):Option (List UInt8 × Int) :=
  if 1048576 < (a0_b.length:Int) then
  none
  else
  Option.bind (wire_Put [] (a0_b.length:Int)) fun x2 =>
  if x2.length + a0_b.length < 1099511627776 then
  some ((x2 ++ a0_b),0)
  else none
def fnv_Start:Option UInt64 :=
  some (14695981039346656037:UInt64)
def fnv_Sum (a0_s:UInt64) (a1_b:List UInt8):Option UInt64 :=
  Option.bind (α:=UInt64) (loop (σ:=UInt64 × Int) (β:=UInt64) (fun (v3,v4) =>
  if v4 < (a1_b.length:Int) then
  if 0 ≤ v4∧v4 < (a1_b.length:Int) then
  if I64 (v4 + 1) then
  some (St.next (((v3 ^^^ ((gi a1_b v4).toUInt64)) * (1099511628211:UInt64)),(v4 + 1)))
  else none
  else none
  else
  some (St.done v3)) (a0_s,0)) fun v2 =>
  some v2
def fnv_Bytes (a0_s:UInt64):Option (List UInt8) :=
  Option.bind (α:=List UInt8) (loop (σ:=UInt64 × List UInt8 × Int) (β:=List UInt8) (fun (v4,l5,v7) =>
  if v7 < 8 then
  if l5.length < 1099511627776 then
  if I64 (v7 + 1) then
  some (St.next ((v4 >>> (8:UInt64)),(l5 ++ [(UInt8.ofNat ((v4.toNat:Int) % 256).toNat)]),(v7 + 1)))
  else none
  else none
  else
  some (St.done l5)) (a0_s,[],0)) fun v2 =>
  some v2
def mapcode_Lay (a0_g:Grd):Option (List UInt8) :=
  Option.bind (wire_Put ([(84:UInt8),(71:UInt8)]:List UInt8) a0_g.w) fun x3 =>
  Option.bind (wire_Put x3 a0_g.h) fun x6 =>
  if x6.length + a0_g.tiles.length < 1099511627776 then
  Option.bind (fnv_Start) fun x10 =>
  Option.bind (fnv_Sum x10 (x6 ++ a0_g.tiles)) fun x11 =>
  Option.bind (fnv_Bytes x11) fun x12 =>
  if (x6 ++ a0_g.tiles).length + x12.length < 1099511627776 then
  some ((x6 ++ a0_g.tiles) ++ x12)
  else none
  else none
def image_lay_1 (a0_l:List Int) (cv0:List UInt8):Option (List UInt8) :=
  Option.bind (α:=List UInt8) (loop (σ:=Int × List UInt8) (β:=List UInt8) (fun (v4,l5) =>
  if v4 < (a0_l.length:Int) then
  if 0 ≤ v4∧v4 < (a0_l.length:Int) then
  Option.bind (wire_Put l5 (gi a0_l v4)) fun x12 =>
  if I64 (v4 + 1) then
  some (St.next ((v4 + 1),x12))
  else none
  else none
  else
  some (St.done l5)) (0,cv0)) fun v2 =>
  some v2
def image_lay (a0_w:Wld):Option (List UInt8) :=
  Option.bind (image_lay_1 ([a0_w.tick,a0_w.players,a0_w.nextid]:List Int) ([(84:UInt8),(87:UInt8)]:List UInt8)) fun x5 =>
  Option.bind (mapcode_Lay a0_w.g) fun x7 =>
  Option.bind (wire_Raw x7) fun x9 =>
  if x5.length + x9.1.length < 1099511627776 then
  Option.bind (image_lay_1 ([(a0_w.bs.length:Int)]:List Int) (x5 ++ x9.1)) fun x14 =>
  Option.bind (α:=Unit) (loop (σ:=Int) (β:=Unit) (fun v24 =>
  if v24 < (a0_w.bs.length:Int) then
  none
  else
  some (St.done ())) 0) fun _ =>
  Option.bind (image_lay_1 ([(a0_w.us.length:Int)]:List Int) x14) fun x18 =>
  Option.bind (α:=Unit) (loop (σ:=Int) (β:=Unit) (fun v21 =>
  if v21 < (a0_w.us.length:Int) then
  none
  else
  some (St.done ())) 0) fun _ =>
  some x18
  else none
def image_Sum (a0_w:Wld):Option UInt64 :=
  Option.bind (fnv_Start) fun x2 =>
  Option.bind (image_lay a0_w) fun x3 =>
  Option.bind (fnv_Sum x2 x3) fun x5 =>
  some x5
end Go.Proofs.YtmngdgclldkcfaaGreat
set_option linter.unusedVariables false
set_option linter.unusedSimpArgs false
set_option maxRecDepth 20000
set_option maxHeartbeats 4000000
namespace Go.Proofs.YtmngdgclldkcfaaGreat
open Go.Vg
open Enc (R)
def cmp_Less (a0_x:Int) (a1_y:Int):Option Bool :=
  Option.bind (cmp_isNaN a0_x) fun x1 =>
  Option.bind (if x1 = true then
  Option.bind (cmp_isNaN a1_y) fun x8 =>
  some (!x8)
  else
  some false) fun b4 =>
  some (decide ((b4 = true) ∨ (a0_x < a1_y)))
def slices_isNaN (a0_x:Int):Option Bool :=
  some (decide (¬ a0_x = a0_x))
def cells_down (a0_a:Int):Option Int :=
  Option.bind (fixed_Norm a0_a) fun x1 =>
  if x1 < 0 then
  if -9223372036854775807 ≤ x1∧x1 ≤ 9223372036854775807 then
  if I64 ((-x1) - 1) then
  if 0 ≤ ((-x1) - 1)∧((-x1) - 1) ≤ 9223372036854775807 then
  if I64 ((((-x1) - 1) / 131072) + 1) then
  if -9223372036854775807 ≤ ((((-x1) - 1) / 131072) + 1)∧((((-x1) - 1) / 131072) + 1) ≤ 9223372036854775807 then
  some (-((((-x1) - 1) / 131072) + 1))
  else none
  else none
  else none
  else none
  else none
  else
  if 0 ≤ x1∧x1 ≤ 9223372036854775807 then
  some (x1 / 131072)
  else none
def cells_of (a0_p:Vec):Option Cel :=
  Option.bind (cells_down a0_p.x) fun x3 =>
  Option.bind (cells_down a0_p.y) fun x4 =>
  some (⟨x3,x4⟩:Cel)
def slices_BinarySearch (a0_x:List Int) (a1_target:Int):Option (Int × Bool) :=
  Option.bind (α:=Int) (loop (σ:=Int × Int) (β:=Int) (fun (v21,v22) =>
  if v21 < v22 then
  if I64 (v21 + v22) then
  if 0 ≤ ((v21 + v22) % 18446744073709551616) then
  if I64 (((v21 + v22) % 18446744073709551616) / 2) then
  if 0 ≤ (((v21 + v22) % 18446744073709551616) / 2)∧(((v21 + v22) % 18446744073709551616) / 2) < (a0_x.length:Int) then
  Option.bind (cmp_Less (gi a0_x (((v21 + v22) % 18446744073709551616) / 2)) a1_target) fun x31 =>
  if x31 = true then
  if I64 ((((v21 + v22) % 18446744073709551616) / 2) + 1) then
  some (St.next (((((v21 + v22) % 18446744073709551616) / 2) + 1),v22))
  else none
  else
  some (St.next (v21,(((v21 + v22) % 18446744073709551616) / 2)))
  else none
  else none
  else none
  else none
  else
  some (St.done v21)) (0,(a0_x.length:Int))) fun v2 =>
  Option.bind (if v2 < (a0_x.length:Int) then
  if 0 ≤ v2∧v2 < (a0_x.length:Int) then
  Option.bind (if (gi a0_x v2) = a1_target then
  some true
  else
  if 0 ≤ v2∧v2 < (a0_x.length:Int) then
  Option.bind (slices_isNaN (gi a0_x v2)) fun x15 =>
  Option.bind (if x15 = true then
  Option.bind (slices_isNaN a1_target) fun x20 =>
  some x20
  else
  some false) fun b18 =>
  some b18
  else none) fun b12 =>
  some b12
  else none
  else
  some false) fun b5 =>
  some (v2,b5)
def army_At_1 (a0_u:Unt) (a1_id:Int):Option Int :=
  Option.bind (cmp_Compare a0_u.id a1_id) fun x2 =>
  some x2
def slices_BinarySearchFuncU (a0_x:List Unt) (a1_target:Int) (a2_cmp:(Unt × Int)→Option Int):Option (Int × Bool) :=
  Option.bind (α:=Int) (loop (σ:=Int × Int) (β:=Int) (fun (v11,v12) =>
  if v11 < v12 then
  if I64 (v11 + v12) then
  if 0 ≤ ((v11 + v12) % 18446744073709551616) then
  if I64 (((v11 + v12) % 18446744073709551616) / 2) then
  if 0 ≤ (((v11 + v12) % 18446744073709551616) / 2)∧(((v11 + v12) % 18446744073709551616) / 2) < (a0_x.length:Int) then
  Option.bind (a2_cmp ((gi a0_x (((v11 + v12) % 18446744073709551616) / 2)),a1_target)) fun x21 =>
  if x21 < 0 then
  none
  else
  some (St.next (v11,(((v11 + v12) % 18446744073709551616) / 2)))
  else none
  else none
  else none
  else none
  else
  some (St.done v11)) (0,(a0_x.length:Int))) fun v2 =>
  Option.bind (if v2 < (a0_x.length:Int) then
  if 0 ≤ v2∧v2 < (a0_x.length:Int) then
  Option.bind (a2_cmp ((gi a0_x v2),a1_target)) fun x10 =>
  some (decide (x10 = 0))
  else none
  else
  some false) fun b5 =>
  some (v2,b5)
def army_At (a0_l:List Unt) (a1_id:Int):Option (Int × Bool) :=
  Option.bind (slices_BinarySearchFuncU a0_l a1_id (fun (y0,y1)=>army_At_1 y0 y1)) fun x1 =>
  some (x1.1,x1.2)
def slices_Contains (a0_s:List Int) (a1_v:Int):Option Bool :=
  Option.bind (slices_Index a0_s a1_v) fun x1 =>
  some (decide (0 ≤ x1))
end Go.Proofs.YtmngdgclldkcfaaGreat
set_option linter.unusedVariables false
set_option linter.unusedSimpArgs false
set_option maxRecDepth 20000
set_option maxHeartbeats 4000000
namespace Go.Proofs.YtmngdgclldkcfaaGreat
open Go.Vg
open Enc (R)
theorem ent174:Ent Tryz.prog 174:=en Tryz.func174
theorem ent238:Ent Tryz.prog 238:=en Tryz.func238
theorem ent307:Ent Tryz.prog 307:=en Tryz.func307
theorem ent359:Ent Tryz.prog 359:=en Tryz.func359
theorem ent361:Ent Tryz.prog 361:=en Tryz.func361
theorem ent368:Ent Tryz.prog 368:=en Tryz.func368
theorem ent65:Ent Tryz.prog 65:=en Tryz.func65
instance fd217_0:FdC Tryz.prog 217 0 0:={}
instance fd217_1:FdC Tryz.prog 217 1 1:={}
instance fd217_2:FdC Tryz.prog 217 2 2:={}
instance fd217_3:FdC Tryz.prog 217 3 3:={}
instance fd217_4:FdC Tryz.prog 217 4 4:={}
theorem mp215:mpTy Tryz.prog 215 = true:=by kernel_rfl
theorem st217:stTy Tryz.prog 217 = some ([.int .i64 0,.map none,.slice none 0 0,.int .i64 0,.int .i64 0],[(0,1),(1,1),(2,1),(3,1),(4,1)]):=by kernel_rfl
instance ty215:TyC Tryz.prog 215 (1,false):={}
theorem zr24:zeroOf Tryz.prog 24 = some (.agg #[.int .i64 0,.int .i64 0,.slice none 0 0]):=by kernel_rfl
theorem slices_Index_walk (a0_s:List Int) (a1_v:Int) (w:World) {v0:Value} (h0:R (hpOf w) a0_s [v0]) {r:Int} (H:slices_Index a0_s a1_v = some r):Calls Tryz.prog 307 #[v0,.int .i64 a1_v] w fun e w'=>e = .returned (.int .i64 r)∧Ext w w':=by
 have hm0:=R_max h0
 obtain ⟨p0,c0,rfl⟩:=R_form h0
 unfold slices_Index at H
 refine te Tryz.func307 (Sat.start w) ?_
 refine au 2 ?_
 refine T.seq fun _ k2=>au 4 ?_
 refine T.joinE (σ:=Unit) (γ:=Unit) H Ex.go [] trivial (fun _ _=>[]) (fun _ _=>Sat w []) ?_ ?_
 ·rintro ⟨⟩ ⟨⟩ H
  try dsimp only [Ex.then] at H
  refine Cont.kq [] ?_
  refine id (k2 _ _ ?_)
  refine au 2 ?_
  obtain rfl:=sj H
  refine T.rt (Cont.ret1 rfl rfl fun w' s=>?_)
  exact ⟨rfl,s.ext⟩
 intro z1 hz1 HX1 hJ1
 refine T.block ?_
 refine T.loopA (γ:=Unit) hz1 [(0,_),(1,_),(7,_)] (fun v2 _=>[(8,.int .i64 v2)]) (fun v2 _=>Sat w []) () sb sb (fun w s=>s) ?_
 rintro v2 ⟨⟩ y3 H hd1 KL1 hL1
 try dsimp only [Ex.then] at H
 refine kq [8,0,1,7] ?_
 refine au 2 ?_
 refine T.seq fun _ k6=>?_
 refine T.cP H rfl (fun hc4 H=>?_) (fun hc4 H=>?_)
 ·refine T.skip (k6 _ _ ?_)
  refine T.seq fun _ k7=>T.block (au 3 ?_)
  refine T.seq fun _ k9=>T.region (au 3 ?_)
  obtain ⟨g5,H⟩:=gdE H
  obtain ⟨bl6,ol7,rfl⟩:=R_ptr h0 (ne_of_pos (pos_of g5))
  refine rp (Pu.indexSl sl35.h rfl rfl g5) (rq (Qt.ld0 (α:=Int) (Rd.base h0) ty3.h rfl rfl g5 (by rintro _ _ rfl; rfl)) (rp (Pu.bin rfl rfl rfl) (RS.nil (k9 _ _ ?_))))
  refine T.cP H rfl (fun hc8 H=>?_) (fun hc8 H=>?_)
  ·refine kq [5] ?_
   refine au 3 ?_
   obtain rfl:=hd1 _ H
   have H:=HX1
   obtain rfl:=sj H
   refine T.rt (Cont.ret1 rfl rfl fun w' s=>?_)
   exact ⟨rfl,s.ext⟩
  refine T.skip (k7 _ _ (kq [0,1,7,8] ?_))
  refine T.region ?_
  obtain ⟨g9,H⟩:=gdE H
  refine rp (Pu.addS rfl rfl g9) (rM rfl (RS.nil (hL1 _ _ (v2 + 1) () H sb sb (fun w s=>s))))
 obtain rfl:=hd1 _ H
 refine T.xt (hJ1 _ _ () () HX1 trivial trivial (fun w s=>s))
theorem cache_New_walk (a0_room:Int) (w:World) {r:Option Cach × Int} (H:cache_New a0_room = some r):Calls Tryz.prog 67 #[.int .i64 a0_room] w fun e w'=>∃ g1:Nat,e = .returned (.tuple #[.pointer (optA g1 r.1),.int .i64 r.2])∧Sat w [optCh Cach_ch g1 r.1] w':=by
 unfold cache_New at H
 refine te Tryz.func67 (Sat.start w) ?_
 refine au 3 ?_
 refine T.seq fun _ k2=>T.seq fun _ k3=>T.region (au 3 ?_)
 refine RS.joinV 3 9 (.bool (decide ((a0_room < 1) ∨ (4096 < a0_room)))) [(0,_)] sb ?_ ?_
 ·refine RS.nil (k3 _ _ ?_)
  refine T.cP H rfl (fun hc3 H=>?_) (fun hc3 H=>?_)
  ·refine au 3 ?_
   obtain rfl:=sj H
   refine T.rt (Cont.ret2 rfl rfl rfl fun w' s=>?_)
   exact ⟨0,rfl,(s.deadRow).pick [0] (by decide) rfl⟩
  refine T.skip (k2 _ _ ?_)
  refine T.seq fun _ k5=>T.region (rM rfl (RS.solid (Sd.makeMap) rfl rfl fun b4=>rp (Pu.build (cells:=[_,_,_,_,_]) st217 rfl rfl) (RS.solid (Sd.box (cs:=[_,_,_,_,_]) rfl rfl) rfl rfl fun b5=>?_)))
  refine RS.weakS (fun w s=>(s.nilRow (α:=Int) 3)) ?_
  refine au 2 ?_
  refine RS.nil (k5 _ _ (kq [2,3] ?_))
  obtain rfl:=sj H
  refine T.rt (Cont.ret2 rfl rfl rfl fun w' s=>?_)
  exact ⟨b5,rfl,Cach_shut (x:=(⟨a0_room,mNil,([]:List Int),0,0⟩:Cach)) ⟨b4,(none,0)⟩ (s.pc [1,0,2])⟩
 intro hJ2
 refine RS.splitP 6 rfl (fun hc1=>?_) (fun hc1=>?_)
 ·refine au 3 ?_
  exact hJ2 _ _ ⟨dOrT hc1,rfl,trivial⟩ (fun w s=>s)
 refine au 3 ?_
 exact hJ2 _ _ ⟨dOrF hc1,rfl,trivial⟩ (fun w s=>s)
theorem cache_Cache_out_walk {w0:World} {F:Ch} (g0:Nat) (a0_c:Cach) (a1_key:Int) {r:Cach} (H:cache_Cache_out a0_c a1_key = some r) (w:World) (s:Sat w0 [Cach_ch g0 a0_c,F] w):Calls Tryz.prog 368 #[.pointer (some ⟨g0,0,none⟩),.int .i64 a1_key] w fun e w'=>e = .returned (.tuple #[])∧Sat w0 [Cach_ch g0 r,F] w':=by
 unfold cache_Cache_out at H
 refine te Tryz.func368 s ?_
 refine T.ex (fun w s=>Cach_open 0 rfl s) ?_
 rintro ⟨q1,q2⟩
 refine nz ?_
 refine T.seq fun _ k1=>T.region (au 5 ?_)
 obtain ⟨x3,hx3,H⟩:=bindE H
 refine rq (Qt.call (vs:=[_,_]) ent307 rfl fun w s=>slices_Index_walk a0_c.keys a1_key w ((Rd.ofRowN 3 rfl) w s) hx3) (rA rfl (RS.nil (k1 _ _ (kq [0,4] ?_))))
 refine au 3 ?_
 refine T.cP H rfl (fun hc4 H=>?_) (fun hc4 H=>?_)
 ·refine T.region (au 7 ?_)
  obtain ⟨g5,H⟩:=gdE H
  refine rp (Pu.addS rfl rfl g5) ?_
  obtain ⟨x6,hx6,H⟩:=bindE H
  refine RS.solid (Sd.callM 3 ent238 rfl rfl (fun w s=>slices_DeleteInt_walk a0_c.keys x3 (x3 + 1) rfl  hx6 w s)) rfl rfl fun q7=>au 3 ?_
  obtain rfl:=sj H
  refine RS.nil (Cont.end0 rfl fun w' s=>?_)
  exact ⟨rfl,Cach_shut (x:=(⟨a0_c.room,a0_c.vals,x6,a0_c.hits,a0_c.misses⟩:Cach)) ⟨q1,q7⟩ (s.pc [1,0,2,3])⟩
 obtain rfl:=sj H
 refine T.skip (Cont.end0 rfl fun w' s=>?_)
 exact ⟨rfl,Cach_shut (x:=a0_c) ⟨q1,q2⟩ (s.pc [1,0,2,3])⟩
theorem cache_Cache_use_walk {w0:World} {F:Ch} (g0:Nat) (a0_c:Cach) (a1_key:Int) {r:Cach} (H:cache_Cache_use a0_c a1_key = some r) (w:World) (s:Sat w0 [Cach_ch g0 a0_c,F] w):Calls Tryz.prog 361 #[.pointer (some ⟨g0,0,none⟩),.int .i64 a1_key] w fun e w'=>e = .returned (.tuple #[])∧Sat w0 [Cach_ch g0 r,F] w':=by
 unfold cache_Cache_use at H
 refine te Tryz.func361 s ?_
 refine T.ex (fun w s=>Cach_open 0 rfl s) ?_
 rintro ⟨q1,q2⟩
 refine nz ?_
 refine T.seq fun _ k1=>T.region (au 2 ?_)
 refine RS.weakS (fun w s=>Cach_shut (R:=[F]) (g:=g0) (x:=a0_c) ⟨q1,q2⟩ (s.pc [1,0,2,3])) ?_
 obtain ⟨x3,hx3,H⟩:=bindE H
 refine RS.solid (Sd.callF0 0 ent368 rfl rfl (fun w s=>cache_Cache_out_walk g0 a0_c a1_key  hx3 w s)) rfl rfl fun _=>?_
 refine RS.ex (fun w s=>Cach_open 0 rfl s) ?_
 rintro ⟨q4,q5⟩
 refine nz ?_
 refine RS.nil (k1 _ _ (kq [0,1] ?_))
 refine T.region (au 6 ?_)
 refine RS.solid (Sd.litS (cs:=[_]) sl35.h zr3 rfl rfl rfl rfl rfl) rfl rfl fun b6=>?_
 refine RS.weakS (fun w s=>s.litRow (α:=Int) (n:=1) 4 ([a1_key]:List Int) rfl (by decide) rfl ⟨[_],_,rfl,rfl,rfl⟩) ?_
 obtain ⟨x7,hx7,H⟩:=bindE H
 refine RS.solid (Sd.callM 3 ent174 rfl rfl (fun w s=>slices_InsertInt_walk x3.keys 0 ([a1_key]:List Int) rfl (Rd.rest 4 rfl (by decide) (Rd.ofRowN 0 rfl)) hx7 w s)) rfl rfl fun q8=>au 3 ?_
 obtain rfl:=sj H
 refine RS.nil (Cont.end0 rfl fun w' s=>?_)
 exact ⟨rfl,Cach_shut (x:=(⟨x3.room,x3.vals,x7,x3.hits,x3.misses⟩:Cach)) ⟨q4,q8⟩ (s.pc [1,0,2,3])⟩
theorem cache_Cache_Put_walk {w0:World} {F:Ch} (g0:Nat) (a0_c:Cach) (a1_key:Int) (a2_val:Int) {r:Cach} (H:cache_Cache_Put a0_c a1_key a2_val = some r) (w:World) (s:Sat w0 [Cach_ch g0 a0_c,F] w):Calls Tryz.prog 356 #[.pointer (some ⟨g0,0,none⟩),.int .i64 a1_key,.int .i64 a2_val] w fun e w'=>e = .returned (.tuple #[])∧Sat w0 [Cach_ch g0 r,F] w':=by
 unfold cache_Cache_Put at H
 refine te Tryz.func356 s ?_
 refine T.ex (fun w s=>Cach_open 0 rfl s) ?_
 rintro ⟨q1,q2⟩
 refine nz ?_
 refine T.seq fun _ k1=>T.region (au 6 ?_)
 refine RS.solid (Sd.mapUpdate 2 mp215 rfl rfl rfl rfl) rfl rfl fun _=>RS.nil (k1 _ _ (kq [0,1] ?_))
 refine T.seq fun _ k2=>T.region (au 2 ?_)
 refine RS.weakS (fun w s=>Cach_shut (R:=[F]) (g:=g0) (x:=(⟨a0_c.room,(mPut a0_c.vals a1_key a2_val),a0_c.keys,a0_c.hits,a0_c.misses⟩:Cach)) ⟨q1,q2⟩ (s.pc [1,0,2,3])) ?_
 obtain ⟨x3,hx3,H⟩:=bindE H
 refine RS.solid (Sd.callF0 0 ent361 rfl rfl (fun w s=>cache_Cache_use_walk g0 (⟨a0_c.room,(mPut a0_c.vals a1_key a2_val),a0_c.keys,a0_c.hits,a0_c.misses⟩:Cach) a1_key  hx3 w s)) rfl rfl fun _=>?_
 refine RS.ex (fun w s=>Cach_open 0 rfl s) ?_
 rintro ⟨q4,q5⟩
 refine nz ?_
 refine RS.nil (k2 _ _ (kq [0] ?_))
 refine T.seq fun _ k3=>T.region (au 6 ?_)
 refine RS.nil (k3 _ _ (kq [0,6] ?_))
 refine au 7 ?_
 refine T.cP H rfl (fun hc6 H=>?_) (fun hc6 H=>?_)
 ·refine kq [0,6] ?_
  refine T.seq fun _ k5=>drS mixed [0,1,3] [0,0,0,1,0,0,0,2,0,0,0,1,4] ?_
  refine au 9 ?_
  obtain ⟨g7,H⟩:=gdE H
  refine RD.p (fun w s=>s.pc [0,1,3]) rfl (Pu.subS rfl rfl g7) rfl rfl ?_
  obtain ⟨g8,H⟩:=gdE H
  refine RD.know (p:=∃ g cap,q5 = (some g,cap)) (fun w s=>(s.row_some (k:=3) rfl (pos_of g8))) ?_
  rintro ⟨gg9,cc10,rfl⟩
  refine RD.p (fun w s=>s.pc [0,1,3]) rfl (Pu.indexSl sl35.h rfl rfl g8) rfl rfl (RD.q (fun w s=>s.pc [0,1,3]) rfl (Qt.ld0 (α:=Int) (Rd.ofRowN 3 rfl) ty3.h rfl rfl g8 (by rintro _ _ rfl; rfl)) rfl rfl (RD.solid rfl (.inr rfl) rfl rfl (Sd.mapDelete 2 mp215 rfl rfl rfl) (fun _=>ClE.sat _ _) (fun _ w s=>s.pc [0,1,3]) (fun h=>nomatch h) fun _=>?_))
  refine RD.nil (k5 _ _ (kq [0,6] ?_))
  refine T.region (au 6 ?_)
  obtain ⟨g11,H⟩:=gdE H
  refine rp (Pu.subS rfl rfl g11) ?_
  obtain ⟨g12,H⟩:=gdE H
  refine RS.know (fun w s=>(s.row_fits (q:=(some gg9,cc10)) (m:=x3.keys.length) (k:=3) rfl)) fun hf13=>?_
  refine rp (Pu.sliceH sl35.h rfl rfl (le_cap g12 hf13.2.1)) ?_
  refine RS.weakS (fun w s=>s.cutRow (q:=(some gg9,cc10)) (m:=x3.keys.length) 3 (((x3.keys.length:Int) - 1).toNat) rfl (le_nat g12)) ?_
  refine au 3 ?_
  obtain rfl:=sj H
  refine RS.nil (Cont.end0 rfl fun w' s=>?_)
  exact ⟨rfl,Cach_shut (x:=(⟨x3.room,(mDel x3.vals (gi x3.keys ((x3.keys.length:Int) - 1))),(x3.keys.take ((x3.keys.length:Int) - 1).toNat),x3.hits,x3.misses⟩:Cach)) ⟨q4,(some gg9,cc10)⟩ ((Sat.cellB 0 (Sat.relen (q:=(some gg9,cc10)) (m:=((x3.keys.length:Int) - 1).toNat) 3 s rfl) rfl (congrArg (fun z=>[.int .i64 x3.room,.map (some q4),rowV (some gg9,cc10) z,.int .i64 x3.hits,.int .i64 x3.misses]) (s.row_fits (q:=(some gg9,cc10)) (m:=((x3.keys.length:Int) - 1).toNat) (k:=3) rfl).1)).pick [1,0,2,3] (by decide) rfl)⟩
 obtain rfl:=sj H
 refine T.skip (Cont.end0 rfl fun w' s=>?_)
 exact ⟨rfl,Cach_shut (x:=x3) ⟨q4,q5⟩ (s.pc [1,0,2,3])⟩
theorem cache_Cache_Get_walk {w0:World} {F:Ch} (g0:Nat) (a0_c:Cach) (a1_key:Int) {r:Int × Bool × Cach} (H:cache_Cache_Get a0_c a1_key = some r) (w:World) (s:Sat w0 [Cach_ch g0 a0_c,F] w):Calls Tryz.prog 355 #[.pointer (some ⟨g0,0,none⟩),.int .i64 a1_key] w fun e w'=>e = .returned (.tuple #[.int .i64 r.1,.bool r.2.1])∧Sat w0 [Cach_ch g0 r.2.2,F] w':=by
 unfold cache_Cache_Get at H
 refine te Tryz.func355 s ?_
 refine T.ex (fun w s=>Cach_open 0 rfl s) ?_
 rintro ⟨q1,q2⟩
 refine au 3 ?_
 refine T.seq fun _ k2=>T.region (au 5 ?_)
 refine rq (Qt.lookup2 2 mp215 rfl rfl rfl) (au 5 ?_)
 refine RS.nil (k2 _ _ (kq [0,1,6,7] ?_))
 refine T.seq fun _ k3=>au 3 ?_
 refine T.cB H rfl (fun hc3 H=>?_) (fun hc3 H=>?_)
 ·refine kq [0] ?_
  refine T.seq fun _ k5=>T.region (au 3 ?_)
  obtain ⟨g4,H⟩:=gdE H
  refine RS.solid (Sd.callF0 0 ent359 rfl rfl (fun w s=>atomicAdd_walk (cs':=[_,_,_,_,_]) s rfl g4 rfl)) rfl rfl fun _=>RS.nil (k5 _ _ (kq [] ?_))
  refine au 3 ?_
  obtain rfl:=sj H
  refine T.rt (Cont.ret2 rfl rfl rfl fun w' s=>?_)
  exact ⟨rfl,Cach_shut (x:=(⟨a0_c.room,a0_c.vals,a0_c.keys,a0_c.hits,(a0_c.misses + 1)⟩:Cach)) ⟨q1,q2⟩ (s.pc [1,0,2,3])⟩
 refine T.skip (k3 _ _ (kq [0,1,6] ?_))
 refine T.seq fun _ k7=>T.region (au 3 ?_)
 obtain ⟨g5,H⟩:=gdE H
 refine RS.solid (Sd.callF0 0 ent359 rfl rfl (fun w s=>atomicAdd_walk (cs':=[_,_,_,_,_]) s rfl g5 rfl)) rfl rfl fun _=>RS.nil (k7 _ _ (kq [0,1,6] ?_))
 refine T.seq fun _ k8=>T.region (au 2 ?_)
 refine RS.weakS (fun w s=>Cach_shut (R:=[F]) (g:=g0) (x:=(⟨a0_c.room,a0_c.vals,a0_c.keys,(a0_c.hits + 1),a0_c.misses⟩:Cach)) ⟨q1,q2⟩ (s.pc [1,0,2,3])) ?_
 obtain ⟨x6,hx6,H⟩:=bindE H
 refine RS.solid (Sd.callF0 0 ent361 rfl rfl (fun w s=>cache_Cache_use_walk g0 (⟨a0_c.room,a0_c.vals,a0_c.keys,(a0_c.hits + 1),a0_c.misses⟩:Cach) a1_key  hx6 w s)) rfl rfl fun _=>?_
 refine RS.ex (fun w s=>Cach_open 0 rfl s) ?_
 rintro ⟨q7,q8⟩
 refine nz ?_
 refine RS.nil (k8 _ _ (kq [6] ?_))
 refine au 4 ?_
 obtain rfl:=sj H
 refine T.rt (Cont.ret2 rfl rfl rfl fun w' s=>?_)
 exact ⟨rfl,Cach_shut (x:=x6) ⟨q7,q8⟩ (s.pc [1,0,2,3])⟩
theorem cache_Cache_Clear_walk {w0:World} {F:Ch} (g0:Nat) (a0_c:Cach) {r:Cach} (H:cache_Cache_Clear a0_c = some r) (w:World) (s:Sat w0 [Cach_ch g0 a0_c,F] w):Calls Tryz.prog 110 #[.pointer (some ⟨g0,0,none⟩)] w fun e w'=>e = .returned (.tuple #[])∧Sat w0 [Cach_ch g0 r,F] w':=by
 unfold cache_Cache_Clear at H
 refine te Tryz.func110 s ?_
 refine T.ex (fun w s=>Cach_open 0 rfl s) ?_
 rintro ⟨q1,q2⟩
 refine nz ?_
 refine T.seq fun _ k1=>T.region (au 4 ?_)
 refine RS.solid (Sd.mapClear 2 mp215 rfl rfl) rfl rfl fun _=>RS.nil (k1 _ _ (kq [0] ?_))
 refine T.region (au 4 ?_)
 obtain rfl:=sj H
 refine RS.nil (Cont.end0 rfl fun w' s=>?_)
 exact ⟨rfl,Cach_shut (x:=(⟨a0_c.room,mNil,[],a0_c.hits,a0_c.misses⟩:Cach)) ⟨q1,(none,0)⟩ ((s.nilRow (α:=Int) 3).pick [1,0,2,4] (by decide) rfl)⟩
theorem cache_Cache_Keys_walk {w0:World} {F:Ch} (g0:Nat) (a0_c:Cach) {r:List Int} (H:cache_Cache_Keys a0_c = some r) (w:World) (s:Sat w0 [Cach_ch g0 a0_c,F] w):Calls Tryz.prog 362 #[.pointer (some ⟨g0,0,none⟩)] w fun e w'=>∃ q1:(Option Nat × Nat),e = .returned (rowV q1 r.length)∧Sat w0 ([Cach_ch g0 a0_c,F] ++ [row nilH 3 (rowV q1 r.length) r]) w':=by
 unfold cache_Cache_Keys at H
 refine te Tryz.func362 s ?_
 refine T.ex (fun w s=>Cach_open 0 rfl s) ?_
 rintro ⟨q1,q2⟩
 refine au 2 ?_
 refine T.seq fun _ k2=>T.region (au 4 ?_)
 obtain ⟨x3,hx3,H⟩:=bindE H
 refine RS.solid (Sd.callN (vs:=[_]) ent222 rfl (fun w s=>slices_Clone_Int_walk a0_c.keys w ((Rd.ofRowN 3 rfl) w s) hx3)) rfl rfl fun q4=>rA rfl (RS.nil (k2 _ _ (kq [2] ?_)))
 obtain rfl:=sj H
 refine T.rt (Cont.ret1 rfl rfl fun w' s=>?_)
 exact ⟨q4,rfl,Cach_shut (x:=a0_c) ⟨q1,q2⟩ (s.pc [1,4,0,2,3])⟩
theorem slices_EqualBytes_walk (a0_s1:List UInt8) (a1_s2:List UInt8) (w:World) {v0 v1:Value} (h0:R (hpOf w) a0_s1 [v0]) (h1:R (hpOf w) a1_s2 [v1]) {r:Bool} (H:slices_EqualBytes a0_s1 a1_s2 = some r):Calls Tryz.prog 201 #[v0,v1] w fun e w'=>e = .returned (.bool r)∧Ext w w':=by
 have hm0:=R_max h0
 obtain ⟨p0,c0,rfl⟩:=R_form h0
 have hm1:=R_max h1
 obtain ⟨p1,c1,rfl⟩:=R_form h1
 unfold slices_EqualBytes at H
 refine te Tryz.func201 (Sat.start w) ?_
 refine au 2 ?_
 refine T.seq fun _ k2=>au 6 ?_
 refine T.cP H rfl (fun hc1 H=>?_) (fun hc1 H=>?_)
 ·refine kq [] ?_
  refine au 2 ?_
  obtain rfl:=sj H
  refine T.rt (Cont.ret1 rfl rfl fun w' s=>?_)
  exact ⟨rfl,s.ext⟩
 refine T.skip (k2 _ _ (kq [0,1] ?_))
 refine T.seq fun _ k5=>au 4 ?_
 refine T.joinE (σ:=Unit) (γ:=Unit) H Ex.go [] trivial (fun _ _=>[]) (fun _ _=>Sat w []) ?_ ?_
 ·rintro ⟨⟩ ⟨⟩ H
  try dsimp only [Ex.then] at H
  refine Cont.kq [] ?_
  refine id (k5 _ _ ?_)
  refine au 2 ?_
  obtain rfl:=sj H
  refine T.rt (Cont.ret1 rfl rfl fun w' s=>?_)
  exact ⟨rfl,s.ext⟩
 intro z2 hz2 HX2 hJ2
 refine T.block ?_
 refine T.loopA (γ:=Unit) hz2 [(0,_),(1,_),(12,_)] (fun v3 _=>[(13,.int .i64 v3)]) (fun v3 _=>Sat w []) () sb sb (fun w s=>s) ?_
 rintro v3 ⟨⟩ y4 H hd2 KL2 hL2
 try dsimp only [Ex.then] at H
 refine kq [13,0,1,12] ?_
 refine au 2 ?_
 refine T.seq fun _ k9=>?_
 refine T.cP H rfl (fun hc5 H=>?_) (fun hc5 H=>?_)
 ·refine T.skip (k9 _ _ ?_)
  refine T.seq fun _ k10=>T.block (au 3 ?_)
  refine T.seq fun _ k12=>dr mixed [0,0,0,1,0,0,0,1,0] ?_
  refine au 2 ?_
  obtain ⟨g6,H⟩:=gdE H
  obtain ⟨bl7,ol8,rfl⟩:=R_ptr h0 (ne_of_pos (pos_of g6))
  refine dp rfl (Pu.indexSl sl22.h rfl rfl g6) (dq rfl (Qt.ld0 (α:=UInt8) (Rd.base h0) ty5.h rfl rfl g6 (by rintro _ _ rfl; rfl)) (au 2 ?_))
  obtain ⟨g9,H⟩:=gdE H
  obtain ⟨bl10,ol11,rfl⟩:=R_ptr h1 (ne_of_pos (pos_of g9))
  refine dp rfl (Pu.indexSl sl22.h rfl rfl g9) (dq rfl (Qt.ld0 (α:=UInt8) (Rd.base h1) ty5.h rfl rfl g9 (by rintro _ _ rfl; rfl)) (dp rfl (Pu.bin rfl rfl rfl) (RD.nil (k12 _ _ ?_))))
  refine T.cP H rfl (fun hc12 H=>?_) (fun hc12 H=>?_)
  ·refine kq [] ?_
   refine au 2 ?_
   obtain rfl:=hd2 _ H
   have H:=HX2
   obtain rfl:=sj H
   refine T.rt (Cont.ret1 rfl rfl fun w' s=>?_)
   exact ⟨rfl,s.ext⟩
  refine T.skip (k10 _ _ (kq [0,1,12,13] ?_))
  refine T.region ?_
  obtain ⟨g13,H⟩:=gdE H
  refine rp (Pu.addS rfl rfl g13) (rM rfl (RS.nil (hL2 _ _ (v3 + 1) () H sb sb (fun w s=>s))))
 obtain rfl:=hd2 _ H
 refine T.xt (hJ2 _ _ () () HX2 trivial trivial (fun w s=>s))
theorem slices_EqualBld_walk (a0_s1:List Bld) (a1_s2:List Bld) (w:World) {v0 v1:Value} (h0:R (hpOf w) a0_s1 [v0]) (h1:R (hpOf w) a1_s2 [v1]) {r:Bool} (H:slices_EqualBld a0_s1 a1_s2 = some r):Calls Tryz.prog 200 #[v0,v1] w fun e w'=>e = .returned (.bool r)∧Ext w w':=by
 have hm0:=R_max h0
 obtain ⟨p0,c0,rfl⟩:=R_form h0
 have hm1:=R_max h1
 obtain ⟨p1,c1,rfl⟩:=R_form h1
 unfold slices_EqualBld at H
 refine te Tryz.func200 (Sat.start w) ?_
 refine au 2 ?_
 refine T.seq fun _ k2=>au 6 ?_
 refine T.cP H rfl (fun hc1 H=>?_) (fun hc1 H=>?_)
 ·refine kq [] ?_
  refine au 2 ?_
  obtain rfl:=sj H
  refine T.rt (Cont.ret1 rfl rfl fun w' s=>?_)
  exact ⟨rfl,s.ext⟩
 refine T.skip (k2 _ _ (kq [0,1] ?_))
 refine T.seq fun _ k5=>au 4 ?_
 refine T.joinE (σ:=Unit) (γ:=Unit) H Ex.go [] trivial (fun _ _=>[]) (fun _ _=>Sat w []) ?_ ?_
 ·rintro ⟨⟩ ⟨⟩ H
  try dsimp only [Ex.then] at H
  refine Cont.kq [] ?_
  refine id (k5 _ _ ?_)
  refine au 2 ?_
  obtain rfl:=sj H
  refine T.rt (Cont.ret1 rfl rfl fun w' s=>?_)
  exact ⟨rfl,s.ext⟩
 intro z2 hz2 HX2 hJ2
 refine T.block ?_
 refine T.loopA (γ:=Unit) hz2 [(0,_),(1,_),(12,_)] (fun v3 _=>[(13,.int .i64 v3)]) (fun v3 _=>Sat w []) () sb sb (fun w s=>s) ?_
 rintro v3 ⟨⟩ y4 H hd2 KL2 hL2
 try dsimp only [Ex.then] at H
 refine kq [13,0,1,12] ?_
 refine au 2 ?_
 refine T.seq fun _ k9=>?_
 refine T.cP H rfl (fun hc5 H=>?_) (fun hc5 H=>?_)
 ·refine T.skip (k9 _ _ ?_)
  refine T.seq fun _ k10=>T.block (au 3 ?_)
  refine T.seq fun _ k12=>dr mixed [0,0,0,1,0,0,0,1,0] ?_
  refine au 2 ?_
  obtain ⟨g6,H⟩:=gdE H
  obtain ⟨bl7,ol8,rfl⟩:=R_ptr h0 (ne_of_pos (pos_of g6))
  refine dp rfl (Pu.indexSl sl49.h rfl rfl g6) (dq rfl (Qt.ldW (α:=Bld) (cs:=[_,_,_,_,_,_]) (Rd.base h0) ty135.h rfl rfl g6 rfl (by rintro _ _ rfl; rfl)) (au 2 ?_))
  obtain ⟨g9,H⟩:=gdE H
  obtain ⟨bl10,ol11,rfl⟩:=R_ptr h1 (ne_of_pos (pos_of g9))
  refine dp rfl (Pu.indexSl sl49.h rfl rfl g9) (dq rfl (Qt.ldW (α:=Bld) (cs:=[_,_,_,_,_,_]) (Rd.base h1) ty135.h rfl rfl g9 rfl (by rintro _ _ rfl; rfl)) (dp rfl (Pu.neSt eqt135 rfl rfl rfl (eq_Bld (gi a0_s1 v3) (gi a1_s2 v3))) (RD.nil (k12 _ _ ?_))))
  refine T.cP H rfl (fun hc12 H=>?_) (fun hc12 H=>?_)
  ·refine kq [] ?_
   refine au 2 ?_
   obtain rfl:=hd2 _ H
   have H:=HX2
   obtain rfl:=sj H
   refine T.rt (Cont.ret1 rfl rfl fun w' s=>?_)
   exact ⟨rfl,s.ext⟩
  refine T.skip (k10 _ _ (kq [0,1,12,13] ?_))
  refine T.region ?_
  obtain ⟨g13,H⟩:=gdE H
  refine rp (Pu.addS rfl rfl g13) (rM rfl (RS.nil (hL2 _ _ (v3 + 1) () H sb sb (fun w s=>s))))
 obtain rfl:=hd2 _ H
 refine T.xt (hJ2 _ _ () () HX2 trivial trivial (fun w s=>s))
theorem ground_Own_walk (a0_g:Grd) (w:World) {v0:Value} (h0:R (hpOf w) a0_g.tiles [v0]) {r:Grd} (H:ground_Own a0_g = some r):Calls Tryz.prog 32 #[.agg #[.int .i64 a0_g.w,.int .i64 a0_g.h,v0]] w fun e w'=>∃ q1:(Option Nat × Nat),e = .returned (.agg #[.int .i64 r.w,.int .i64 r.h,rowV q1 r.tiles.length])∧Sat w [row nilH 5 (rowV q1 r.tiles.length) r.tiles] w':=by
 have hm0:=R_max h0
 obtain ⟨p0,c0,rfl⟩:=R_form h0
 unfold ground_Own at H
 refine te Tryz.func32 (Sat.start w) ?_
 refine T.seq fun _ k1=>T.region (RS.solid (Sd.box (cs:=[_,_,_]) rfl rfl) rfl rfl fun b1=>RS.solid (Sd.alloc zr24 rfl) rfl rfl fun b2=>RS.nil (k1 _ _ ?_))
 refine T.seq fun _ k2=>T.region (au 2 ?_)
 obtain ⟨x3,hx3,H⟩:=bindE H
 refine RS.solid (Sd.callN (vs:=[_]) ent65 rfl (fun w s=>slices_Clone_Byte_walk a0_g.tiles w ((Rd.base h0) w s) hx3)) rfl rfl fun q4=>au 2 ?_
 refine RS.nil (k2 _ _ (kq [1,2] ?_))
 refine au 3 ?_
 obtain rfl:=sj H
 refine T.rt (Cont.retC 1 rfl ty24.h rfl rfl rfl fun w' s=>?_)
 exact ⟨q4,rfl,s.pc [2]⟩
end Go.Proofs.YtmngdgclldkcfaaGreat
