/-
  Texts of one's own, joined: CI CL LO LG LH OC LP LF SE.
-/
import Derived.Test.YtmngdgclldkcfaaGreatRows
import Derived.Test.YtmngdgclldkcfaaGreatW2
import Derived.Test.YtmngdgclldkcfaaGreatA2
import Derived.Test.YtmngdgclldkcfaaGreatA1
import Derived.Test.YtmngdgclldkcfaaGreatW3
import Derived.Tactics
import Derived.Tactics2
import Derived.Defers
import Derived.Laws.Pointers
import Derived.Laws.LoneSync
import Derived.RegionTactic
import Derived.RegionCalls
import Derived.ChangeAlike
set_option linter.unusedVariables false
set_option linter.unusedSimpArgs false
set_option maxRecDepth 20000
set_option maxHeartbeats 4000000
namespace Go.Proofs.YtmngdgclldkcfaaGreat
open Go.Vg
open Enc (R)
--BEGIN
end Go.Proofs.YtmngdgclldkcfaaGreat
set_option linter.unusedVariables false
set_option maxRecDepth 20000
namespace Go.Proofs.YtmngdgclldkcfaaGreat
open Go.Vg
open Enc (R)
end Go.Proofs.YtmngdgclldkcfaaGreat
set_option linter.unusedVariables false
set_option linter.unusedSimpArgs false
set_option maxRecDepth 20000
set_option maxHeartbeats 4000000
namespace Go.Proofs.YtmngdgclldkcfaaGreat
open Go.Vg
open Enc (R)
structure Cach where
  room:Int
  vals:(Int→Option Int)
  keys:List Int
  hits:Int
  misses:Int
  deriving Inhabited
def Cach_ch (g:Nat) (x:Cach):Ch:=exch fun q:Nat × (Option Nat × Nat)=>stars (blk g [.int .i64 x.room,.map (some q.1),rowV q.2 x.keys.length,.int .i64 x.hits,.int .i64 x.misses] 217 :: [mapCh q.1 x.vals,row nilH 3 (rowV q.2 x.keys.length) x.keys])
theorem Cach_open {w0 w:World} {G:List Ch} {g:Nat} {x:Cach} (k:Nat) (hk:G[k]? = some (Cach_ch g x)) (h:Sat w0 G w):∃ q:Nat × (Option Nat × Nat),Sat w0 (G.set k (blk g [.int .i64 x.room,.map (some q.1),rowV q.2 x.keys.length,.int .i64 x.hits,.int .i64 x.misses] 217) ++ [mapCh q.1 x.vals,row nilH 3 (rowV q.2 x.keys.length) x.keys]) w:=Sat.openAt (A:=fun q:Nat × (Option Nat × Nat)=>blk g [.int .i64 x.room,.map (some q.1),rowV q.2 x.keys.length,.int .i64 x.hits,.int .i64 x.misses] 217) (L:=fun q:Nat × (Option Nat × Nat)=>[mapCh q.1 x.vals,row nilH 3 (rowV q.2 x.keys.length) x.keys]) k hk h
theorem Cach_shut {w0 w:World} {R:List Ch} {g:Nat} {x:Cach} (q:Nat × (Option Nat × Nat)) (h:Sat w0 (R ++ [blk g [.int .i64 x.room,.map (some q.1),rowV q.2 x.keys.length,.int .i64 x.hits,.int .i64 x.misses] 217,mapCh q.1 x.vals,row nilH 3 (rowV q.2 x.keys.length) x.keys]) w):Sat w0 (Cach_ch g x :: R) w:=Sat.toEx (C:=fun q:Nat × (Option Nat × Nat)=>stars (blk g [.int .i64 x.room,.map (some q.1),rowV q.2 x.keys.length,.int .i64 x.hits,.int .i64 x.misses] 217 :: [mapCh q.1 x.vals,row nilH 3 (rowV q.2 x.keys.length) x.keys])) q (Sat.toStars (blk g [.int .i64 x.room,.map (some q.1),rowV q.2 x.keys.length,.int .i64 x.hits,.int .i64 x.misses] 217 :: [mapCh q.1 x.vals,row nilH 3 (rowV q.2 x.keys.length) x.keys]) (G:=R) h)
end Go.Proofs.YtmngdgclldkcfaaGreat
set_option linter.unusedVariables false
set_option linter.unusedSimpArgs false
set_option maxRecDepth 20000
set_option maxHeartbeats 4000000
namespace Go.Proofs.YtmngdgclldkcfaaGreat
open Go.Vg
open Enc (R)
def cache_New (a0_room:Int):Option (Option Cach × Int) :=
  if (a0_room < 1) ∨ (4096 < a0_room) then
  some (none,1)
  else
  some (some (⟨a0_room,mNil,([]:List Int),0,0⟩:Cach),0)
def cache_Cache_Clear (a0_c:Cach):Option Cach :=
  some (⟨a0_c.room,mNil,[],a0_c.hits,a0_c.misses⟩:Cach)
def ground_Own (a0_g:Grd):Option Grd :=
  Option.bind (slices_Clone_Byte a0_g.tiles) fun x3 =>
  some (⟨a0_g.w,a0_g.h,x3⟩:Grd)
def throngref15_Room (a0_n:Int):Option Bool :=
  some (decide ((1 ≤ a0_n)∧(a0_n ≤ 4096)))
end Go.Proofs.YtmngdgclldkcfaaGreat
set_option linter.unusedVariables false
set_option linter.unusedSimpArgs false
set_option maxRecDepth 20000
set_option maxHeartbeats 4000000
namespace Go.Proofs.YtmngdgclldkcfaaGreat
open Go.Vg
open Enc (R)
theorem ent222:Ent Tryz.prog 222:=⟨_,_,Tryz.func222,by kernel_rfl,rfl⟩
theorem ent65:Ent Tryz.prog 65:=⟨_,_,Tryz.func65,by kernel_rfl,rfl⟩
theorem fd217_1:fdOff Tryz.prog 217 1 = some 1:=by kernel_rfl
theorem fd217_2:fdOff Tryz.prog 217 2 = some 2:=by kernel_rfl
theorem mp215:mpTy Tryz.prog 215 = true:=by kernel_rfl
theorem st217:stTy Tryz.prog 217 = some ([.int .i64 0,.map none,.slice none 0 0,.int .i64 0,.int .i64 0],[(0,1),(1,1),(2,1),(3,1),(4,1)]):=by kernel_rfl
theorem ty215:tySz Tryz.prog 215 = some (1,false):=by kernel_rfl
theorem ty35:tySz Tryz.prog 35 = some (1,false):=by kernel_rfl
theorem zr24:zeroOf Tryz.prog 24 = some (.agg #[.int .i64 0,.int .i64 0,.slice none 0 0]):=by kernel_rfl
theorem cache_New_walk (a0_room:Int) (w:World) {r:Option Cach × Int} (H:cache_New a0_room = some r):Calls Tryz.prog 67 #[.int .i64 a0_room] w fun e w'=>∃ g1:Nat,e = .returned (.tuple #[.pointer (optA g1 r.1),.int .i64 r.2])∧Sat w [optCh Cach_ch g1 r.1] w':=by
 unfold cache_New at H
 refine T.enter (args:=[_]) (S:=Sat w []) Tryz.func67 rfl rfl (Sat.start w) ?_
 refine T.seq fun K1 hK1=>T.region (rA rfl (rA rfl (RS.nil (hK1 _ _ ?_))))
 refine T.seq fun K2 hK2=>T.seq fun K3 hK3=>T.region (rM rfl (rp (Pu.bin rfl rfl rfl) (rM rfl ?_)))
 refine RS.joinV 3 9 (.bool (decide ((a0_room < 1) ∨ (4096 < a0_room)))) [(0,_)] ⟨rfl,trivial⟩ ?_ ?_
 ·refine RS.nil (hK3 _ _ ?_)
  refine T.condP rfl (fun hc3=>?_) (fun hc3=>?_)
  ·have H:=ifT hc3 H
   refine T.seq fun K4 hK4=>T.region (rA rfl (rA rfl (RS.nil (hK4 _ _ ?_))))
   obtain rfl:=sj H
   refine T.rt (Cont.ret2 rfl rfl rfl fun w' s=>?_)
   exact ⟨0,rfl,(s.deadRow).pick [0] (by decide) rfl⟩
  ·have H:=ifF hc3 H
   refine T.skip (hK2 _ _ ?_)
   refine T.seq fun K5 hK5=>T.region (rM rfl (RS.solid (Sd.makeMap) rfl rfl fun b4=>rp (Pu.build (cells:=[_,_,_,_,_]) st217 rfl rfl) (RS.solid (Sd.box (cs:=[_,_,_,_,_]) rfl rfl) rfl rfl fun b5=>?_)))
   refine RS.weakS (fun w s=>(s.nilRow (α:=Int) 3)) ?_
   refine rA rfl (rA rfl (RS.nil (hK5 _ _ (cq [(2,_),(3,_)] ?_))))
   obtain rfl:=sj H
   refine T.rt (Cont.ret2 rfl rfl rfl fun w' s=>?_)
   exact ⟨b5,rfl,Cach_shut (x:=(⟨a0_room,mNil,([]:List Int),0,0⟩:Cach)) ⟨b4,(none,0)⟩ (s.pick [1,0,2] (by decide) rfl)⟩
 ·intro hJ2
  refine RS.splitP 6 rfl (fun hc1=>?_) (fun hc1=>?_)
  ·refine ro (ro (rp (Pu.pickT rfl rfl) ?_))
   exact hJ2 _ _ ⟨dOrT hc1,rfl,trivial⟩ (fun w s=>s)
  ·refine rM rfl (rp (Pu.bin rfl rfl rfl) (rp (Pu.pickF rfl rfl) ?_))
   exact hJ2 _ _ ⟨dOrF hc1,rfl,trivial⟩ (fun w s=>s)
theorem cache_Cache_Clear_walk {w0:World} {F:Ch} (g0:Nat) (a0_c:Cach) {r:Cach} (H:cache_Cache_Clear a0_c = some r) (w:World) (s:Sat w0 [Cach_ch g0 a0_c,F] w):Calls Tryz.prog 110 #[.pointer (some ⟨g0,0,none⟩)] w fun e w'=>e = .returned (.tuple #[])∧Sat w0 [Cach_ch g0 r,F] w':=by
 unfold cache_Cache_Clear at H
 refine T.enter (args:=[_]) (S:=Sat w0 [Cach_ch g0 a0_c,F]) Tryz.func110 rfl rfl (s) ?_
 refine T.ex (S':=fun q:Nat × (Option Nat × Nat)=>Sat w0 [blk g0 [.int .i64 a0_c.room,.map (some q.1),rowV q.2 a0_c.keys.length,.int .i64 a0_c.hits,.int .i64 a0_c.misses] 217,F,mapCh q.1 a0_c.vals,row nilH 3 (rowV q.2 a0_c.keys.length) a0_c.keys]) (fun w s=>Cach_open 0 rfl s) ?_
 rintro ⟨q1,q2⟩
 show T _ _ _ _ (Sat w0 [blk g0 [.int .i64 a0_c.room,.map (some q1),rowV q2 a0_c.keys.length,.int .i64 a0_c.hits,.int .i64 a0_c.misses] 217,F,mapCh q1 a0_c.vals,row nilH 3 (rowV q2 a0_c.keys.length) a0_c.keys]) _
 refine T.seq fun K1 hK1=>T.region (rM rfl (rp (Pu.nilCheck rfl) (rp (Pu.fieldAddr fd217_1 rfl) (rq (Qt.ldB 0 ty215 rfl rfl rfl) (RS.solid (Sd.mapClear 2 mp215 rfl rfl) rfl rfl fun _=>RS.nil (hK1 _ _ (cq [(0,_)] ?_)))))))
 refine T.region (rM rfl (rp (Pu.nilCheck rfl) (rp (Pu.fieldAddr fd217_2 rfl) (RS.solid (Sd.stB (cs':=[_,_,_,_,_]) 0 ty35 rfl rfl rfl rfl rfl rfl rfl rfl) rfl rfl fun _=>?_))))
 obtain rfl:=sj H
 refine RS.nil (Cont.end0 rfl fun w' s=>?_)
 exact ⟨rfl,Cach_shut (x:=(⟨a0_c.room,mNil,[],a0_c.hits,a0_c.misses⟩:Cach)) ⟨q1,(none,0)⟩ ((s.nilRow (α:=Int) 3).pick [1,0,2,4] (by decide) rfl)⟩
theorem ground_Own_walk (a0_g:Grd) (w:World) {v0:Value} (h0:R (hpOf w) a0_g.tiles [v0]) {r:Grd} (H:ground_Own a0_g = some r):Calls Tryz.prog 32 #[.agg #[.int .i64 a0_g.w,.int .i64 a0_g.h,v0]] w fun e w'=>∃ q1:(Option Nat × Nat),e = .returned (.agg #[.int .i64 r.w,.int .i64 r.h,rowV q1 r.tiles.length])∧Sat w [row nilH 5 (rowV q1 r.tiles.length) r.tiles] w':=by
 have hm0:=R_max h0
 obtain ⟨p0,c0,rfl⟩:=R_form h0
 unfold ground_Own at H
 refine T.enter (args:=[_]) (S:=Sat w []) Tryz.func32 rfl rfl (Sat.start w) ?_
 refine T.seq fun K1 hK1=>T.region (RS.solid (Sd.box (cs:=[_,_,_]) rfl rfl) rfl rfl fun b1=>RS.solid (Sd.alloc zr24 rfl) rfl rfl fun b2=>RS.nil (hK1 _ _ ?_))
 refine T.seq fun K2 hK2=>T.region (rp (Pu.fieldAddr fd24_2 rfl) (rq (Qt.ldB 0 ty22 rfl rfl rfl) ?_))
 obtain ⟨x3,hx3,H⟩:=bindE H
 refine RS.solid (Sd.callN (vs:=[.slice p0 a0_g.tiles.length c0]) ent65 rfl (fun w s=>slices_Clone_Byte_walk a0_g.tiles w ((Rd.base h0) w s) hx3)) rfl rfl fun q4=>rp (Pu.fieldAddr fd24_2 rfl) (RS.solid (Sd.stB (cs':=[_,_,_]) 0 ty22 rfl rfl rfl rfl rfl rfl rfl rfl) rfl rfl fun _=>RS.nil (hK2 _ _ (cq [(1,_),(2,_)] ?_)))
 refine T.seq fun K3 hK3=>T.region (rq (Qt.ldBA (us:=[_,_,_]) 0 ty24 rfl rfl rfl rfl) (RS.solid (Sd.stB (cs':=[_,_,_]) 1 ty24 rfl rfl rfl rfl rfl rfl rfl rfl) rfl rfl fun _=>RS.nil (hK3 _ _ ?_)))
 obtain rfl:=sj H
 refine T.rt (Cont.retC 1 rfl ty24 rfl rfl rfl fun w' s=>?_)
 exact ⟨q4,rfl,s.pick [2] (by decide) rfl⟩
theorem throngref15_Room_walk (a0_n:Int) (w:World) {r:Bool} (H:throngref15_Room a0_n = some r):Calls Tryz.prog 28 #[.int .i64 a0_n] w fun e w'=>e = .returned (.bool r)∧Ext w w':=by
 unfold throngref15_Room at H
 refine T.enter (args:=[_]) (S:=Sat w []) Tryz.func28 rfl rfl (Sat.start w) ?_
 refine T.seq fun K1 hK1=>T.region (rA rfl (RS.nil (hK1 _ _ ?_)))
 refine T.seq fun K2 hK2=>T.region (rM rfl (rp (Pu.bin rfl rfl rfl) (rM rfl ?_)))
 refine RS.joinV 3 8 (.bool (decide ((1 ≤ a0_n)∧(a0_n ≤ 4096)))) [(2,_)] ⟨rfl,trivial⟩ ?_ ?_
 ·refine rA rfl (RS.nil (hK2 _ _ ?_))
  obtain rfl:=sj H
  refine T.rt (Cont.ret1 rfl rfl fun w' s=>?_)
  exact ⟨rfl,s.ext⟩
 ·intro hJ2
  refine RS.splitP 5 rfl (fun hc1=>?_) (fun hc1=>?_)
  ·refine rM rfl (rp (Pu.bin rfl rfl rfl) (rp (Pu.pickT rfl rfl) ?_))
   exact hJ2 _ _ ⟨dAndT hc1,rfl,trivial⟩ (fun w s=>s)
  ·refine ro (ro (rp (Pu.pickF rfl rfl) ?_))
   exact hJ2 _ _ ⟨dAndF hc1,rfl,trivial⟩ (fun w s=>s)
end Go.Proofs.YtmngdgclldkcfaaGreat
set_option linter.unusedVariables false
set_option linter.unusedSimpArgs false
set_option maxRecDepth 20000
set_option maxHeartbeats 4000000
namespace Go.Proofs.YtmngdgclldkcfaaGreat
open Go.Vg
open Enc (R)
end Go.Proofs.YtmngdgclldkcfaaGreat
set_option linter.unusedVariables false
set_option linter.unusedSimpArgs false
set_option maxRecDepth 20000
namespace Go.Proofs.YtmngdgclldkcfaaGreat
open Go.Vg
open Enc (R)
structure Fld where
  c:Cach
  made:Int
  has:Bool
  g:Grd
  l:List Bld
  nets:List (Int × Net)
  ways:List (Int × List Int)
  count:Int
  deriving Inhabited
section
variable {α β:Type}
def mapV (f:α→β) (L:List (Int × α)):List (Int × β):=L.map fun e=>(e.1,f e.2)
end
def NetB (H:Hp) (n:Nat) (x:Net):Prop:=∃ v0 v1,blk n [.int .i64 x.g.w,.int .i64 x.g.h,v0,.int .i64 x.cls,v1] 233 H∧R H x.g.tiles [v0]∧R H x.free [v1]
def NetAt (H:Hp) (z:Nat × Net):Prop:=∃ s n,blk z.1 [.int .u32 1,.int .i32 0,s,.pointer (some ⟨n,0,none⟩)] 179 H∧NetB H n z.2
def WayAt (H:Hp) (z:Nat × List Int):Prop:=∃ s v,blk z.1 [.int .u32 1,.int .i32 0,s,v] 425 H∧R H z.2 [v]
theorem NetB.mono {H K:Hp} (h:H.le K) {n:Nat} {x:Net}:NetB H n x→NetB K n x:=fun ⟨v0,v1,a,b,c⟩=>⟨v0,v1,h _ _ a,Enc.mono h b,Enc.mono h c⟩
theorem NetAt.mono {H K:Hp} (h:H.le K) {z:Nat × Net}:NetAt H z→NetAt K z:=fun ⟨s,n,a,b⟩=>⟨s,n,h _ _ a,b.mono h⟩
theorem WayAt.mono {H K:Hp} (h:H.le K) {z:Nat × List Int}:WayAt H z→WayAt K z:=fun ⟨s,v,a,b⟩=>⟨s,v,h _ _ a,Enc.mono h b⟩
def pt (b:Nat):Value:=.pointer (some ⟨b,0,none⟩)
def raw {α:Type} (L:List (Int × (Nat × α))):List (Int × Value):=mapV (fun z=>pt z.1) L
def abs {α:Type} (L:List (Int × (Nat × α))):List (Int × α):=mapV (fun z=>z.2) L
structure FldIn (x:Fld) where
  gc:Nat
  gn:Nat
  gw:Nat
  tv:Value
  lv:Value
  hA:Hp
  N:List (Int × (Nat × Net))
  W:List (Int × (Nat × List Int))
  hN:x.nets = abs N
  hW:x.ways = abs W
  aN:∀ e ∈ N,NetAt hA e.2
  aW:∀ e ∈ W,WayAt hA e.2
  rt:R hA x.g.tiles [tv]
  rl:R hA x.l [lv]
def Fld_ch (g:Nat) (x:Fld):Ch:=exch fun q:FldIn x=>stars (blk g [.pointer (some ⟨q.gc,0,none⟩),.int .i64 x.made,.bool x.has,.int .i64 x.g.w,.int .i64 x.g.h,q.tv,q.lv,.map (some q.gn),.map (some q.gw),.int .i64 x.count] 147 :: [Cach_ch q.gc x.c,mapL q.gn (raw q.N),mapL q.gw (raw q.W),fz q.hA])
theorem Fld_shut {w0 w:World} {G:List Ch} {g:Nat} {x:Fld} (q:FldIn x) (h:Sat w0 (G ++ [blk g [.pointer (some ⟨q.gc,0,none⟩),.int .i64 x.made,.bool x.has,.int .i64 x.g.w,.int .i64 x.g.h,q.tv,q.lv,.map (some q.gn),.map (some q.gw),.int .i64 x.count] 147,Cach_ch q.gc x.c,mapL q.gn (raw q.N),mapL q.gw (raw q.W),fz q.hA]) w):Sat w0 (Fld_ch g x :: G) w :=
  Sat.toEx (C:=fun q:FldIn x=>stars (blk g [.pointer (some ⟨q.gc,0,none⟩),.int .i64 x.made,.bool x.has,.int .i64 x.g.w,.int .i64 x.g.h,q.tv,q.lv,.map (some q.gn),.map (some q.gw),.int .i64 x.count] 147 :: [Cach_ch q.gc x.c,mapL q.gn (raw q.N),mapL q.gw (raw q.W),fz q.hA])) q (Sat.toStars (blk g [.pointer (some ⟨q.gc,0,none⟩),.int .i64 x.made,.bool x.has,.int .i64 x.g.w,.int .i64 x.g.h,q.tv,q.lv,.map (some q.gn),.map (some q.gw),.int .i64 x.count] 147 :: [Cach_ch q.gc x.c,mapL q.gn (raw q.N),mapL q.gw (raw q.W),fz q.hA]) (G:=G) h)
def fields_New (room:Int):Option (Option Fld × Int):=Option.bind (cache_New room) fun y=>match y with
  | (some c,_)=>Option.bind (cache_Cache_Clear c) fun c=>some (some ⟨c,0,false,⟨0,0,[]⟩,[],[],[],0⟩,0)
  | (none,e)=>some (none,e)
end Go.Proofs.YtmngdgclldkcfaaGreat
set_option linter.unusedVariables false
set_option linter.unusedSimpArgs false
set_option maxRecDepth 20000
set_option maxHeartbeats 4000000
namespace Go.Proofs.YtmngdgclldkcfaaGreat
open Go.Vg
open Enc (R)
theorem ent110:Ent Tryz.prog 110:=⟨_,_,Tryz.func110,by kernel_rfl,rfl⟩
theorem ent32:Ent Tryz.prog 32:=⟨_,_,Tryz.func32,by kernel_rfl,rfl⟩
theorem ent67:Ent Tryz.prog 67:=⟨_,_,Tryz.func67,by kernel_rfl,rfl⟩
theorem ent68:Ent Tryz.prog 68:=⟨_,_,Tryz.func68,by kernel_rfl,rfl⟩
theorem fd147_0:fdOff Tryz.prog 147 0 = some 0:=by kernel_rfl
theorem fd147_2:fdOff Tryz.prog 147 2 = some 2:=by kernel_rfl
theorem fd147_5:fdOff Tryz.prog 147 5 = some 7:=by kernel_rfl
theorem fd147_6:fdOff Tryz.prog 147 6 = some 8:=by kernel_rfl
theorem st147:stTy Tryz.prog 147 = some ([.pointer none,.int .i64 0,.bool false,.int .i64 0,.int .i64 0,.slice none 0 0,.slice none 0 0,.map none,.map none,.int .i64 0],[(0,1),(1,1),(2,1),(3,3),(6,1),(7,1),(8,1),(9,1)]):=by kernel_rfl
theorem ty136:tySz Tryz.prog 136 = some (1,false):=by kernel_rfl
theorem ty144:tySz Tryz.prog 144 = some (1,false):=by kernel_rfl
theorem ty145:tySz Tryz.prog 145 = some (1,false):=by kernel_rfl
theorem ty49:tySz Tryz.prog 49 = some (1,false):=by kernel_rfl
theorem callFr {w0:World} {P:Program} {f:FuncId} {vs:Array Value} {A B:List Ch} {ι:Type} {val:ι→Value} {A':ι→List Ch} (hc:∀ w,Sat w0 (A ++ [stars B]) w→Calls P f vs w fun e w'=>∃ i,e = .returned (val i)∧Sat w0 (A' i ++ [stars B]) w') {w:World} (s:Sat w0 (A ++ B) w) :
  Calls P f vs w fun e w'=>∃ i,e = .returned (val i)∧Sat w0 (A' i ++ B) w' :=
 (hc w (Sat.toStars B (G:=A) s).rot).mono fun e w' ⟨i,h1,h2⟩=>⟨i,h1,Sat.unstars B h2.rotB⟩
theorem fields_Forget_walk {w0:World} {F:Ch} (gF gc:Nat) (c:Cach) {c':Cach} (H:cache_Cache_Clear c = some c') {m h W Hh tv lv mv nv k:Value} (w:World) (s:Sat w0 [blk gF [.pointer (some ⟨gc,0,none⟩),m,h,W,Hh,tv,lv,mv,nv,k] 147,Cach_ch gc c,F] w):Calls Tryz.prog 68 #[.pointer (some ⟨gF,0,none⟩)] w fun e w'=>∃ q:Nat × Nat,e = .returned (.tuple #[])∧Sat w0 ([blk gF [.pointer (some ⟨gc,0,none⟩),m,.bool false,W,Hh,tv,lv,.map (some q.1),.map (some q.2),k] 147,Cach_ch gc c',mapL q.1 [],mapL q.2 []] ++ [F]) w':=by
 refine T.enter (args:=[_]) (S:=Sat w0 [blk gF [.pointer (some ⟨gc,0,none⟩),m,h,W,Hh,tv,lv,mv,nv,k] 147,Cach_ch gc c,F]) Tryz.func68 rfl rfl (s) ?_
 refine T.seq fun K1 hK1=>?_
 refine T.region ?_
 refine RS.p (Pu.move rfl) rfl rfl ?_
 refine RS.p (Pu.nilCheck rfl) rfl rfl ?_
 refine RS.p (Pu.fieldAddr fd147_0 rfl) rfl rfl ?_
 refine RS.q (Qt.ldB 0 ty136 rfl rfl rfl) rfl rfl ?_
 refine RS.solid (Sd.callF0 1 ent110 rfl rfl (fun w s=>cache_Cache_Clear_walk gc c H w s)) rfl rfl fun _=>?_
 refine RS.nil (hK1 _ _ (T.conseq (fr':=[(0,_)]) ?_ ⟨rfl,trivial⟩ (fun _ s=>s)))
 refine T.region ?_
 refine RS.p (Pu.move rfl) rfl rfl ?_
 refine RS.p (Pu.move rfl) rfl rfl ?_
 refine RS.p (Pu.move rfl) rfl rfl ?_
 refine RS.solid Sd.makeMapL rfl rfl fun gn=>?_
 refine RS.solid Sd.makeMapL rfl rfl fun gw=>?_
 refine RS.p (Pu.nilCheck rfl) rfl rfl ?_
 refine RS.p (Pu.fieldAddr fd147_2 rfl) rfl rfl ?_
 refine RS.solid (Sd.stB (cs':=[_,_,_,_,_,_,_,_,_,_]) 0 ty4 rfl rfl rfl rfl rfl rfl rfl rfl) rfl rfl fun _=>?_
 refine RS.p (Pu.nilCheck rfl) rfl rfl ?_
 refine RS.p (Pu.fieldAddr fd147_5 rfl) rfl rfl ?_
 refine RS.solid (Sd.stB (cs':=[_,_,_,_,_,_,_,_,_,_]) 0 ty144 rfl rfl rfl rfl rfl rfl rfl rfl) rfl rfl fun _=>?_
 refine RS.p (Pu.nilCheck rfl) rfl rfl ?_
 refine RS.p (Pu.fieldAddr fd147_6 rfl) rfl rfl ?_
 refine RS.solid (Sd.stB (cs':=[_,_,_,_,_,_,_,_,_,_]) 0 ty145 rfl rfl rfl rfl rfl rfl rfl rfl) rfl rfl fun _=>?_
 refine RS.nil (Cont.end0 rfl fun w' s=>?_)
 exact ⟨(gn,gw),rfl,s.pick [0,1,3,4,2] (by decide) rfl⟩
theorem fields_New_no (room:Int) (H:cache_New room = some (none,1)) (w:World):Calls Tryz.prog 36 #[.int .i64 room] w fun e w'=>e = .returned (.tuple #[.pointer none,.int .i64 1])∧Ext w w':=by
 refine T.enter (args:=[_]) (S:=Sat w []) Tryz.func36 rfl rfl (Sat.start w) ?_
 refine T.seq fun K1 hK1=>?_
 refine T.region ?_
 refine RS.p (Pu.assign rfl) rfl rfl ?_
 refine RS.p (Pu.assign rfl) rfl rfl ?_
 refine RS.nil (hK1 _ _ ?_)
 refine T.seq fun K2 hK2=>?_
 refine T.region ?_
 refine RS.p (Pu.move rfl) rfl rfl ?_
 refine RS.solid (Sd.callN ent67 rfl (fun w s=>cache_New_walk room w H)) rfl rfl fun gc=>?_
 refine RS.p (Pu.move rfl) rfl rfl ?_
 refine RS.p (Pu.extract rfl rfl) rfl rfl ?_
 refine RS.p (Pu.extract rfl rfl) rfl rfl ?_
 refine RS.p (Pu.assign rfl) rfl rfl ?_
 refine RS.p (Pu.assign rfl) rfl rfl ?_
 refine RS.nil (hK2 _ _ (T.conseq (fr':=[(4,_),(5,_)]) ?_ ⟨rfl,rfl,trivial⟩ (fun _ s=>s)))
 refine T.seq fun K3 hK3=>?_
 refine T.seq fun K4 hK4=>?_
 refine T.region ?_
 refine RS.p (Pu.move rfl) rfl rfl ?_
 refine RS.p (Pu.bin rfl rfl rfl) rfl rfl ?_
 refine RS.nil (hK4 _ _ ?_)
 refine T.condP rfl (fun hc13=>?_) (fun hc13=>?_)
 ·refine T.conseq (fr':=[(5,_)]) ?_ ⟨rfl,trivial⟩ (fun _ s=>s)
  refine T.seq fun K5 hK5=>?_
  refine T.region ?_
  refine RS.p (Pu.move rfl) rfl rfl ?_
  refine RS.p (Pu.assign rfl) rfl rfl ?_
  refine RS.p (Pu.assign rfl) rfl rfl ?_
  refine RS.nil (hK5 _ _ ?_)
  refine T.retTo (by with_reducible ((repeat (first | apply RetTo.seq | apply RetTo.blk)); exact RetTo.refl _)) (Cont.ret2 rfl rfl rfl fun w' s=>?_)
  exact ⟨rfl,s.ext⟩
 ·exact absurd (by decide) hc13 -- end
theorem fields_New_ok (room:Int) {c c':Cach} (H:cache_New room = some (some c,0)) (H2:cache_Cache_Clear c = some c') (w:World):Calls Tryz.prog 36 #[.int .i64 room] w fun e w'=>∃ g:Nat,e = .returned (.tuple #[.pointer (some ⟨g,0,none⟩),.int .i64 0])∧Sat w [Fld_ch g ⟨c',0,false,⟨0,0,[]⟩,[],[],[],0⟩] w':=by
 refine T.enter (args:=[_]) (S:=Sat w []) Tryz.func36 rfl rfl (Sat.start w) ?_
 refine T.seq fun K1 hK1=>?_
 refine T.region ?_
 refine RS.p (Pu.assign rfl) rfl rfl ?_
 refine RS.p (Pu.assign rfl) rfl rfl ?_
 refine RS.nil (hK1 _ _ ?_)
 refine T.seq fun K2 hK2=>?_
 refine T.region ?_
 refine RS.p (Pu.move rfl) rfl rfl ?_
 refine RS.solid (Sd.callN ent67 rfl (fun w s=>cache_New_walk room w H)) rfl rfl fun gc=>?_
 refine RS.p (Pu.move rfl) rfl rfl ?_
 refine RS.p (Pu.extract rfl rfl) rfl rfl ?_
 refine RS.p (Pu.extract rfl rfl) rfl rfl ?_
 refine RS.p (Pu.assign rfl) rfl rfl ?_
 refine RS.p (Pu.assign rfl) rfl rfl ?_
 refine RS.nil (hK2 _ _ (T.conseq (fr':=[(4,_),(5,_)]) ?_ ⟨rfl,rfl,trivial⟩ (fun _ s=>s)))
 refine T.seq fun K3 hK3=>?_
 refine T.seq fun K4 hK4=>?_
 refine T.region ?_
 refine RS.p (Pu.move rfl) rfl rfl ?_
 refine RS.p (Pu.bin rfl rfl rfl) rfl rfl ?_
 refine RS.nil (hK4 _ _ ?_)
 refine T.condP rfl (fun hc13=>?_) (fun hc13=>?_)
 ·exact absurd rfl hc13 -- end
 ·refine T.skip (hK3 _ _ (T.conseq (fr':=[(4,_)]) ?_ ⟨rfl,trivial⟩ (fun _ s=>s)))
  refine T.seq fun K5 hK5=>?_
  refine T.weakS (fun w s=>s.optSome 0 rfl) ?_
  refine T.region ?_
  refine RS.p (Pu.move rfl) rfl rfl ?_
  refine RS.p (Pu.build (cells:=[_,_,_,_,_,_,_,_,_,_]) st147 rfl rfl) rfl rfl ?_
  refine RS.solid (Sd.box (cs:=[_,_,_,_,_,_,_,_,_,_]) rfl rfl) rfl rfl fun b17=>?_
  refine RS.p (Pu.assign rfl) rfl rfl ?_
  refine RS.nil (hK5 _ _ (T.conseq (fr':=[(6,_)]) ?_ ⟨rfl,trivial⟩ (fun _ s=>s)))
  refine T.seq fun K6 hK6=>?_
  refine T.region ?_
  refine RS.p (Pu.move rfl) rfl rfl ?_
  refine RS.solid (Sd.call ent68 rfl (fun w s=>callFr (A:=[_,_]) (B:=[]) (fun w s=>fields_Forget_walk b17 gc c H2 w s) (s.pick [1,0] (by decide) rfl))) rfl rfl fun q=>?_
  refine RS.nil (hK6 _ _ ?_)
  refine T.seq fun K7 hK7=>?_
  refine T.region ?_
  refine RS.p (Pu.move rfl) rfl rfl ?_
  refine RS.p (Pu.assign rfl) rfl rfl ?_
  refine RS.p (Pu.assign rfl) rfl rfl ?_
  refine RS.nil (hK7 _ _ (T.conseq (fr':=[(2,_),(3,_)]) ?_ ⟨rfl,rfl,trivial⟩ (fun _ s=>s)))
  refine T.retTo (by with_reducible ((repeat (first | apply RetTo.seq | apply RetTo.blk)); exact RetTo.refl _)) (Cont.ret2 rfl rfl rfl fun w' s=>?_)
  obtain ⟨hA,_,s⟩:=s.newArena
  exact ⟨b17,rfl,Fld_shut (x:=⟨c',0,false,⟨0,0,[]⟩,[],[],[],0⟩) ⟨gc,q.1,q.2,.slice none 0 0,.slice none 0 0,hA,[],[],rfl,rfl,by simp,by simp,⟨none,0,rfl,by simp,by simp,.inl rfl⟩,⟨none,0,rfl,by simp,by simp,.inl rfl⟩⟩ (s.pick [0,1,2,3,4] (by decide) rfl)⟩
theorem fields_New_walk (room:Int) (w:World) {r:Option Fld × Int} (H:fields_New room = some r):Calls Tryz.prog 36 #[.int .i64 room] w fun e w'=>∃ g:Nat,e = .returned (.tuple #[.pointer (optA g r.1),.int .i64 r.2])∧Sat w [optCh Fld_ch g r.1] w':=by
 unfold fields_New at H
 obtain ⟨y,hy,H⟩:=bindE H
 have h2:y = (none,1) ∨ ∃ c,y = (some c,0):=by
  unfold cache_New at hy
  split at hy
  ·exact .inl (Option.some.inj hy).symm
  ·exact .inr ⟨_,(Option.some.inj hy).symm⟩
 rcases h2 with rfl | ⟨c,rfl⟩
 ·obtain rfl:=Option.some.inj H
  exact (fields_New_no room hy w).mono fun e w' ⟨he,hx⟩=>⟨0,he,((Sat.start w).grow hx).addEmpty dead fun _=>trivial⟩
 ·obtain ⟨c',hc,H⟩:=bindE H
  obtain rfl:=Option.some.inj H
  exact fields_New_ok room hy hc w
end Go.Proofs.YtmngdgclldkcfaaGreat
set_option linter.unusedVariables false
set_option linter.unusedSimpArgs false
set_option maxRecDepth 20000
set_option maxHeartbeats 4000000
namespace Go.Proofs.YtmngdgclldkcfaaGreat
open Go.Vg
open Enc (R)
def Eng_ch (g:Nat) (x:Wld):Ch:=exch fun q:(Option Nat × Nat) × (Option Nat × Nat) × (Option Nat × Nat) × Nat × Fld=>stars ((blk g [.int .i64 x.tick,.int .i64 x.players,.int .i64 x.nextid,.int .i64 x.g.w,.int .i64 x.g.h,rowV q.1 x.g.tiles.length,rowV q.2.1 x.bs.length,rowV q.2.2.1 x.us.length,.pointer (some ⟨q.2.2.2.1,0,none⟩)] 105) :: [row nilH 5 (rowV q.1 x.g.tiles.length) x.g.tiles,row nilH 135 (rowV q.2.1 x.bs.length) x.bs,row nilH 54 (rowV q.2.2.1 x.us.length) x.us,Fld_ch q.2.2.2.1 q.2.2.2.2])
theorem Eng_open {w0 w:World} {G:List Ch} {g:Nat} {x:Wld} (k:Nat) (hk:G[k]? = some (Eng_ch g x)) (h:Sat w0 G w):∃ q:(Option Nat × Nat) × (Option Nat × Nat) × (Option Nat × Nat) × Nat × Fld,Sat w0 (G.set k (blk g [.int .i64 x.tick,.int .i64 x.players,.int .i64 x.nextid,.int .i64 x.g.w,.int .i64 x.g.h,rowV q.1 x.g.tiles.length,rowV q.2.1 x.bs.length,rowV q.2.2.1 x.us.length,.pointer (some ⟨q.2.2.2.1,0,none⟩)] 105) ++ [row nilH 5 (rowV q.1 x.g.tiles.length) x.g.tiles,row nilH 135 (rowV q.2.1 x.bs.length) x.bs,row nilH 54 (rowV q.2.2.1 x.us.length) x.us,Fld_ch q.2.2.2.1 q.2.2.2.2]) w:=Sat.openAt (A:=fun q:(Option Nat × Nat) × (Option Nat × Nat) × (Option Nat × Nat) × Nat × Fld=>(blk g [.int .i64 x.tick,.int .i64 x.players,.int .i64 x.nextid,.int .i64 x.g.w,.int .i64 x.g.h,rowV q.1 x.g.tiles.length,rowV q.2.1 x.bs.length,rowV q.2.2.1 x.us.length,.pointer (some ⟨q.2.2.2.1,0,none⟩)] 105)) (L:=fun q:(Option Nat × Nat) × (Option Nat × Nat) × (Option Nat × Nat) × Nat × Fld=>[row nilH 5 (rowV q.1 x.g.tiles.length) x.g.tiles,row nilH 135 (rowV q.2.1 x.bs.length) x.bs,row nilH 54 (rowV q.2.2.1 x.us.length) x.us,Fld_ch q.2.2.2.1 q.2.2.2.2]) k hk h
theorem Eng_shut {w0 w:World} {R:List Ch} {g:Nat} {x:Wld} (q:(Option Nat × Nat) × (Option Nat × Nat) × (Option Nat × Nat) × Nat × Fld) (h:Sat w0 (R ++ [blk g [.int .i64 x.tick,.int .i64 x.players,.int .i64 x.nextid,.int .i64 x.g.w,.int .i64 x.g.h,rowV q.1 x.g.tiles.length,rowV q.2.1 x.bs.length,rowV q.2.2.1 x.us.length,.pointer (some ⟨q.2.2.2.1,0,none⟩)] 105,row nilH 5 (rowV q.1 x.g.tiles.length) x.g.tiles,row nilH 135 (rowV q.2.1 x.bs.length) x.bs,row nilH 54 (rowV q.2.2.1 x.us.length) x.us,Fld_ch q.2.2.2.1 q.2.2.2.2]) w):Sat w0 (Eng_ch g x :: R) w:=Sat.toEx (C:=fun q:(Option Nat × Nat) × (Option Nat × Nat) × (Option Nat × Nat) × Nat × Fld=>stars ((blk g [.int .i64 x.tick,.int .i64 x.players,.int .i64 x.nextid,.int .i64 x.g.w,.int .i64 x.g.h,rowV q.1 x.g.tiles.length,rowV q.2.1 x.bs.length,rowV q.2.2.1 x.us.length,.pointer (some ⟨q.2.2.2.1,0,none⟩)] 105) :: [row nilH 5 (rowV q.1 x.g.tiles.length) x.g.tiles,row nilH 135 (rowV q.2.1 x.bs.length) x.bs,row nilH 54 (rowV q.2.2.1 x.us.length) x.us,Fld_ch q.2.2.2.1 q.2.2.2.2])) q (Sat.toStars ((blk g [.int .i64 x.tick,.int .i64 x.players,.int .i64 x.nextid,.int .i64 x.g.w,.int .i64 x.g.h,rowV q.1 x.g.tiles.length,rowV q.2.1 x.bs.length,rowV q.2.2.1 x.us.length,.pointer (some ⟨q.2.2.2.1,0,none⟩)] 105) :: [row nilH 5 (rowV q.1 x.g.tiles.length) x.g.tiles,row nilH 135 (rowV q.2.1 x.bs.length) x.bs,row nilH 54 (rowV q.2.2.1 x.us.length) x.us,Fld_ch q.2.2.2.1 q.2.2.2.2]) (G:=R) h)
end Go.Proofs.YtmngdgclldkcfaaGreat
