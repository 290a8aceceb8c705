/-
  Texts of one's own, joined: YL YR YM YN.
-/
import Derived.Test.YtmngdgclldkcfaaGreatRows
import Derived.Test.YtmngdgclldkcfaaGreatJ23
import Derived.Test.YtmngdgclldkcfaaGreatJ12
import Derived.Test.YtmngdgclldkcfaaGreatJ22
import Derived.Test.YtmngdgclldkcfaaGreatJ6
import Derived.Test.YtmngdgclldkcfaaGreatJ7
import Derived.Test.YtmngdgclldkcfaaGreatFI
import Derived.Test.YtmngdgclldkcfaaGreatNH
import Derived.Test.YtmngdgclldkcfaaGreatJ8
set_option linter.unusedVariables false
set_option linter.unusedSimpArgs false
set_option maxRecDepth 20000
set_option maxHeartbeats 4000000
namespace Go.Proofs.YtmngdgclldkcfaaGreat
open Go.Vg
open Enc (R)
structure Wrk where
  s:Std
  f:Fld
  deriving Inhabited
def Wrk_ch (g:Nat) (gf:Nat) (vc:Value) (ac:Cmd) (x:Wrk):Ch:=exch fun q:Nat=>stars ((blk g [.pointer (some ⟨q,0,none⟩),.int .i64 ac.player,.int .i64 ac.seq,.int .i64 ac.kind,.int .i64 ac.n,vc,.int .i64 ac.tile,.int .i64 ac.w,.int .i64 ac.h,.int .i64 ac.pos.x,.int .i64 ac.pos.y,.func (.func 40) #[.pointer (some ⟨gf,0,none⟩)] #[]] 159) :: [Std_ch q x.s,Fld_ch gf x.f])
theorem Wrk_open {w0 w:World} {G:List Ch} {g:Nat} {gf:Nat} {vc:Value} {ac:Cmd} {x:Wrk} (k:Nat) (hk:G[k]? = some (Wrk_ch g gf vc ac x)) (h:Sat w0 G w):∃ q:Nat,Sat w0 (G.set k (blk g [.pointer (some ⟨q,0,none⟩),.int .i64 ac.player,.int .i64 ac.seq,.int .i64 ac.kind,.int .i64 ac.n,vc,.int .i64 ac.tile,.int .i64 ac.w,.int .i64 ac.h,.int .i64 ac.pos.x,.int .i64 ac.pos.y,.func (.func 40) #[.pointer (some ⟨gf,0,none⟩)] #[]] 159) ++ [Std_ch q x.s,Fld_ch gf x.f]) w:=Sat.openAt (A:=fun q:Nat=>(blk g [.pointer (some ⟨q,0,none⟩),.int .i64 ac.player,.int .i64 ac.seq,.int .i64 ac.kind,.int .i64 ac.n,vc,.int .i64 ac.tile,.int .i64 ac.w,.int .i64 ac.h,.int .i64 ac.pos.x,.int .i64 ac.pos.y,.func (.func 40) #[.pointer (some ⟨gf,0,none⟩)] #[]] 159)) (L:=fun q:Nat=>[Std_ch q x.s,Fld_ch gf x.f]) k hk h
theorem Wrk_shut {w0 w:World} {R:List Ch} {g:Nat} {gf:Nat} {vc:Value} {ac:Cmd} {x:Wrk} (q:Nat) (h:Sat w0 (R ++ [blk g [.pointer (some ⟨q,0,none⟩),.int .i64 ac.player,.int .i64 ac.seq,.int .i64 ac.kind,.int .i64 ac.n,vc,.int .i64 ac.tile,.int .i64 ac.w,.int .i64 ac.h,.int .i64 ac.pos.x,.int .i64 ac.pos.y,.func (.func 40) #[.pointer (some ⟨gf,0,none⟩)] #[]] 159,Std_ch q x.s,Fld_ch gf x.f]) w):Sat w0 (Wrk_ch g gf vc ac x :: R) w:=Sat.toEx (C:=fun q:Nat=>stars ((blk g [.pointer (some ⟨q,0,none⟩),.int .i64 ac.player,.int .i64 ac.seq,.int .i64 ac.kind,.int .i64 ac.n,vc,.int .i64 ac.tile,.int .i64 ac.w,.int .i64 ac.h,.int .i64 ac.pos.x,.int .i64 ac.pos.y,.func (.func 40) #[.pointer (some ⟨gf,0,none⟩)] #[]] 159) :: [Std_ch q x.s,Fld_ch gf x.f])) q (Sat.toStars ((blk g [.pointer (some ⟨q,0,none⟩),.int .i64 ac.player,.int .i64 ac.seq,.int .i64 ac.kind,.int .i64 ac.n,vc,.int .i64 ac.tile,.int .i64 ac.w,.int .i64 ac.h,.int .i64 ac.pos.x,.int .i64 ac.pos.y,.func (.func 40) #[.pointer (some ⟨gf,0,none⟩)] #[]] 159) :: [Std_ch q x.s,Fld_ch gf x.f]) (G:=R) h)
structure Mvr where
 s:Std
 f:Fld
 deriving Inhabited
def Mvr_ch (g:Nat) (gf:Nat) (x:Mvr):Ch:=exch fun q:Nat=>stars ((blk g [.pointer (some ⟨q,0,none⟩),.iface 100 (.pointer (some ⟨gf,0,none⟩))] 185) :: [Std_ch q x.s,Fld_ch gf x.f])
theorem Mvr_open {w0 w:World} {G:List Ch} {g:Nat} {gf:Nat} {x:Mvr} (k:Nat) (hk:G[k]? = some (Mvr_ch g gf x)) (h:Sat w0 G w):∃ q:Nat,Sat w0 (G.set k (blk g [.pointer (some ⟨q,0,none⟩),.iface 100 (.pointer (some ⟨gf,0,none⟩))] 185) ++ [Std_ch q x.s,Fld_ch gf x.f]) w:=Sat.openAt (A:=fun q:Nat=>(blk g [.pointer (some ⟨q,0,none⟩),.iface 100 (.pointer (some ⟨gf,0,none⟩))] 185)) (L:=fun q:Nat=>[Std_ch q x.s,Fld_ch gf x.f]) k hk h
theorem Mvr_shut {w0 w:World} {R:List Ch} {g:Nat} {gf:Nat} {x:Mvr} (q:Nat) (h:Sat w0 (R ++ [blk g [.pointer (some ⟨q,0,none⟩),.iface 100 (.pointer (some ⟨gf,0,none⟩))] 185,Std_ch q x.s,Fld_ch gf x.f]) w):Sat w0 (Mvr_ch g gf x :: R) w:=Sat.toEx (C:=fun q:Nat=>stars ((blk g [.pointer (some ⟨q,0,none⟩),.iface 100 (.pointer (some ⟨gf,0,none⟩))] 185) :: [Std_ch q x.s,Fld_ch gf x.f])) q (Sat.toStars ((blk g [.pointer (some ⟨q,0,none⟩),.iface 100 (.pointer (some ⟨gf,0,none⟩))] 185) :: [Std_ch q x.s,Fld_ch gf x.f]) (G:=R) h)
end Go.Proofs.YtmngdgclldkcfaaGreat
set_option linter.unusedVariables false
set_option linter.unusedSimpArgs false
set_option maxRecDepth 20000
set_option maxHeartbeats 4000000
namespace Go.Proofs.YtmngdgclldkcfaaGreat
open Go.Vg
open Enc (R)
def mover_try (a0_m:Mvr) (a1_u:Unt) (a2_v:Vec):Option (Int × Mvr) :=
  Option.bind (vec_Norm a2_v) fun x3 =>
  Option.bind (α:=Ex (Unit) (Int × Mvr)) (loop (σ:=Int) (β:=Ex (Unit) (Int × Mvr)) (fun v5 =>
  if v5 < 5 then
  if (0 ≤ v5∧v5 < 64)∧I64 ((1:Int) * 2 ^ v5.toNat) then
  if (1:Int) ≤ ((1:Int) * 2 ^ v5.toNat)∧I64 (Int.tdiv x3.x ((1:Int) * 2 ^ v5.toNat)) then
  if (0 ≤ v5∧v5 < 64)∧I64 ((1:Int) * 2 ^ v5.toNat) then
  if (1:Int) ≤ ((1:Int) * 2 ^ v5.toNat)∧I64 (Int.tdiv x3.y ((1:Int) * 2 ^ v5.toNat)) then
  if (⟨(Int.tdiv x3.x ((1:Int) * 2 ^ v5.toNat)),(Int.tdiv x3.y ((1:Int) * 2 ^ v5.toNat))⟩:Vec) = (⟨0,0⟩:Vec) then
  some (St.done (Ex.up (5,a0_m)))
  else
  Option.bind (vec_Add a1_u.pos (⟨(Int.tdiv x3.x ((1:Int) * 2 ^ v5.toNat)),(Int.tdiv x3.y ((1:Int) * 2 ^ v5.toNat))⟩:Vec)) fun x14 =>
  Option.bind (army_Place a0_m.s a1_u.id a1_u.kind x14) fun x17 =>
  if x17.1 = true then
  Option.bind (army_Put x17.2 (⟨a1_u.id,a1_u.owner,a1_u.kind,x14,a1_u.goal,a1_u.next,a1_u.stuck,a1_u.inn,a1_u.state⟩:Unt)) fun x19 =>
  some (St.done (Ex.up (v5,(⟨x19,a0_m.f⟩:Mvr))))
  else
  none
  else none
  else none
  else none
  else none
  else
  some (St.done (Ex.go ()))) 0) fun x=>x.then fun _ =>
  none
def mover_idle (a0_m:Mvr) (a1_u:Unt):Option Mvr :=
  Option.bind (kind_What a1_u.kind) fun x2 =>
  if I64 (x2.radius + 16384) then
  Option.bind (army_Near a0_m.s a1_u.pos (x2.radius + 16384)) fun x7 =>
  Option.bind (α:=Unit) (loop (σ:=Int) (β:=Unit) (fun v13 =>
  if v13 < (x7.length:Int) then
  if 0 ≤ v13∧v13 < (x7.length:Int) then
  if ¬ (gi x7 v13).id = a1_u.id then
  none
  else
  if I64 (v13 + 1) then
  some (St.next (v13 + 1))
  else none
  else none
  else
  some (St.done ())) 0) fun _ =>
  if (1:Int) ≤ 4∧I64 (Int.tdiv x2.speed 4) then
  Option.bind (vec_Clamp (⟨0,0⟩:Vec) (Int.tdiv x2.speed 4)) fun x11 =>
  Option.bind (mover_try a0_m a1_u x11) fun x12 =>
  some x12.2
  else none
  else none
def mover_ends (a0_m:Mvr) (a1_u:Unt) (a2_state:Int):Option Mvr :=
  Option.bind (army_Put a0_m.s (⟨a1_u.id,a1_u.owner,a1_u.kind,a1_u.pos,(-1),(-1),0,a1_u.inn,a2_state⟩:Unt)) fun x3 =>
  some (⟨x3,a0_m.f⟩:Mvr)
def mover_looks (a0_m:Mvr) (a1_u:Unt) (a2_own:Int):Option (Bool × Mvr) :=
  Option.bind (α:=Int × Int × Int × Int × Int) (Option.bind (kind_What a1_u.kind) fun x48 =>
  some (x48.radius,x48.speed,x48.cls,x48.size,x48.room)) fun (v13,v14,v15,v16,v17) =>
  Option.bind (if a1_u.next = (-1) then
  some true
  else
  Option.bind (ground_Mid a0_m.s.w.g a1_u.next) fun x47 =>
  some (decide (a1_u.pos = x47))) fun b20 =>
  if b20 = true then
  some (true,a0_m)
  else
  Option.bind (fields_Net a0_m.f a0_m.s.w.g a0_m.s.w.bs v15 v16) fun x22 =>
  if 0 ≤ a1_u.next∧a1_u.next < (x22.1.free.length:Int) then
  if (!(gi x22.1.free a1_u.next)) = true then
  some (true,(⟨a0_m.s,x22.2⟩:Mvr))
  else
  Option.bind (ground_Beside a0_m.s.w.g a2_own) fun x37 =>
  if (List.replicate 8 0).length = 8∧x37.length = 8 then
  Option.bind (if ¬ a1_u.next = a2_own then
  if x37.length = 8 then
  Option.bind (slices_Contains x37 a1_u.next) fun x45 =>
  some (!x45)
  else none
  else
  some false) fun b42 =>
  some (b42,(⟨a0_m.s,x22.2⟩:Mvr))
  else none
  else none
def mover_next (a0_m:Mvr) (a1_u:Unt) (a2_own:Int):Option (Int × Mvr) :=
  Option.bind (α:=Int × Int × Int × Int × Int) (Option.bind (kind_What a1_u.kind) fun x32 =>
  some (x32.radius,x32.speed,x32.cls,x32.size,x32.room)) fun (v13,v14,v15,v16,v17) =>
  Option.bind (ground_Mid a0_m.s.w.g a2_own) fun x18 =>
  if ¬ a1_u.pos = x18 then
  none
  else
  Option.bind (fields_Ways a0_m.f a0_m.s.w.g a0_m.s.w.bs v15 v16 a1_u.goal) fun x20 =>
  if 0 ≤ a2_own∧a2_own < (x20.1.length:Int) then
  if (gi x20.1 a2_own) < 0 then
  some ((-1),(⟨a0_m.s,x20.2⟩:Mvr))
  else
  Option.bind (ground_Beside a0_m.s.w.g a2_own) fun x30 =>
  if 0 ≤ (gi x20.1 a2_own)∧(gi x20.1 a2_own) < (8:Int)∧x30.length = 8 then
  some ((gi x30 (gi x20.1 a2_own)),(⟨a0_m.s,x20.2⟩:Mvr))
  else none
  else none
def mover_goes (a0_m:Mvr) (a1_u:Unt):Option Mvr :=
  Option.bind (ground_Mid a0_m.s.w.g a1_u.goal) fun x11 =>
  if a1_u.pos = x11 then
  Option.bind (mover_ends a0_m a1_u 2) fun x13 =>
  some x13
  else
  Option.bind (ground_Under a0_m.s.w.g a1_u.pos) fun x14 =>
  Option.bind (mover_looks a0_m a1_u x14) fun x15 =>
  Option.bind (α:=Ex (Mvr × Int) (Mvr)) (if x15.1 = true then
  Option.bind (mover_next x15.2 a1_u x14) fun x27 =>
  if x27.1 < 0 then
  Option.bind (mover_ends x27.2 (⟨a1_u.id,a1_u.owner,a1_u.kind,a1_u.pos,a1_u.goal,x27.1,a1_u.stuck,a1_u.inn,a1_u.state⟩:Unt) 3) fun x29 =>
  some (Ex.up x29)
  else
  some (Ex.go (x27.2,x27.1))
  else
  some (Ex.go (x15.2,a1_u.next))) fun x=>x.then fun (v17,v18) =>
  Option.bind (army_Put v17.s (⟨a1_u.id,a1_u.owner,a1_u.kind,a1_u.pos,a1_u.goal,v18,0,a1_u.inn,a1_u.state⟩:Unt)) fun x20 =>
  Option.bind (ground_Mid a0_m.s.w.g v18) fun x21 =>
  Option.bind (kind_What a1_u.kind) fun x22 =>
  Option.bind (steer_Toward a1_u.pos x21 x22.speed) fun x23 =>
  Option.bind (mover_try (⟨x20,v17.f⟩:Mvr) (⟨a1_u.id,a1_u.owner,a1_u.kind,a1_u.pos,a1_u.goal,v18,0,a1_u.inn,a1_u.state⟩:Unt) x23) fun x24 =>
  if x24.1 < 5 then
  some x24.2
  else
  none
def mover_unit (a0_m:Mvr) (a1_u:Unt):Option Mvr :=
  if a1_u.goal = (-1) then
  Option.bind (mover_idle a0_m a1_u) fun x3 =>
  some x3
  else
  Option.bind (mover_goes a0_m a1_u) fun x4 =>
  some x4
end Go.Proofs.YtmngdgclldkcfaaGreat
set_option linter.unusedVariables false
set_option linter.unusedSimpArgs false
set_option maxRecDepth 20000
set_option maxHeartbeats 4000000
namespace Go.Proofs.YtmngdgclldkcfaaGreat
open Go.Vg
open Enc (R)
theorem ground_On_fwalk (a0_g:Grd) (a1_x:Int) (a2_y:Int) (w:World) {v0:Value} {r:Bool} (H:ground_On a0_g a1_x a2_y = some r):Calls Tryz.prog 304 #[.agg #[.int .i64 a0_g.w,.int .i64 a0_g.h,v0],.int .i64 a1_x,.int .i64 a2_y] w fun e w'=>e = .returned (.bool r)∧Ext w w':=by
 unfold ground_On at H
 refine te Tryz.func304 (Sat.start w) ?_
 refine T.seq fun _ k1=>T.region (RS.solid (Sd.box (cs:=[_,_,_]) rfl rfl) rfl rfl fun b1=>rA rfl (RS.nil (k1 _ _ ?_)))
 refine T.seq fun _ k2=>T.region (au 3 ?_)
 refine RS.joinV 5 14 (.bool (decide ((0 ≤ a1_x)∧(a1_x < a0_g.w)))) [(2,_),(3,_),(6,_)] sb ?_ ?_
 ·refine rM rfl ?_
  refine RS.joinV 3 18 (.bool (decide (((0 ≤ a1_x)∧(a1_x < a0_g.w))∧(0 ≤ a2_y)))) [(2,_),(3,_),(6,_)] sb ?_ ?_
  ·refine rM rfl ?_
   refine RS.joinV 5 24 (.bool (decide ((((0 ≤ a1_x)∧(a1_x < a0_g.w))∧(0 ≤ a2_y))∧(a2_y < a0_g.h)))) [(6,_)] sb ?_ ?_
   ·refine rA rfl (RS.nil (k2 _ _ ?_))
    obtain rfl:=sj H
    refine T.rt (Cont.ret1 rfl rfl fun w' s=>?_)
    exact ⟨rfl,s.ext⟩
   intro hJ7
   refine RS.splitP 19 rfl (fun hc6=>?_) (fun hc6=>?_)
   ·refine au 5 ?_
    exact hJ7 _ _ ⟨dAndT hc6,rfl,trivial⟩ (fun w s=>s)
   refine au 5 ?_
   exact hJ7 _ _ ⟨dAndF hc6,rfl,trivial⟩ (fun w s=>s)
  intro hJ5
  refine RS.splitP 15 rfl (fun hc4=>?_) (fun hc4=>?_)
  ·refine au 3 ?_
   exact hJ5 _ _ ⟨dAndT hc4,rfl,rfl,rfl,trivial⟩ (fun w s=>s)
  refine au 3 ?_
  exact hJ5 _ _ ⟨dAndF hc4,rfl,rfl,rfl,trivial⟩ (fun w s=>s)
 intro hJ3
 refine RS.splitP 9 rfl (fun hc2=>?_) (fun hc2=>?_)
 ·refine au 5 ?_
  exact hJ3 _ _ ⟨dAndT hc2,rfl,rfl,rfl,trivial⟩ (fun w s=>s)
 refine au 5 ?_
 exact hJ3 _ _ ⟨dAndF hc2,rfl,rfl,rfl,trivial⟩ (fun w s=>s)
theorem ground_Mid_fwalk (a0_g:Grd) (a1_t:Int) (w:World) {v0:Value} {r:Vec} (H:ground_Mid a0_g a1_t = some r):Calls Tryz.prog 198 #[.agg #[.int .i64 a0_g.w,.int .i64 a0_g.h,v0],.int .i64 a1_t] w fun e w'=>e = .returned (.agg #[.int .i64 r.x,.int .i64 r.y])∧Ext w w':=by
 unfold ground_Mid at H
 refine te Tryz.func198 (Sat.start w) ?_
 refine T.seq fun _ k1=>T.region (RS.solid (Sd.box (cs:=[_,_,_]) rfl rfl) rfl rfl fun b1=>RS.solid (Sd.alloc zr33 rfl) rfl rfl fun b2=>RS.nil (k1 _ _ ?_))
 refine T.seq fun _ k2=>dr mixed [0,0,1,0,0,0,0,0,1,0,0,0,0,4] ?_
 refine au 3 ?_
 obtain ⟨g3,H⟩:=gdE H
 refine dp rfl (Pu.remN rfl rfl (and3 g3)) ?_
 obtain ⟨g4,H⟩:=gdE H
 refine dp rfl (Pu.mulS rfl rfl g4) ?_
 obtain ⟨g5,H⟩:=gdE H
 refine dp rfl (Pu.addS rfl rfl g5) (au 3 ?_)
 obtain ⟨g6,H⟩:=gdE H
 refine dp rfl (Pu.quoN rfl rfl g6) ?_
 obtain ⟨g7,H⟩:=gdE H
 refine dp rfl (Pu.mulS rfl rfl g7) ?_
 obtain ⟨g8,H⟩:=gdE H
 refine dp rfl (Pu.addS rfl rfl g8) (dp rfl (Pu.build (cells:=[_,_]) st33 rfl rfl) (RD.solid rfl (.inr rfl) rfl rfl (Sd.stB (cs':=[_,_]) 1 ty33.h rfl rfl rfl rfl rfl rfl rfl rfl) (fun _=>ClE.sat _ _) (fun _ _ _=>trivial) (fun h=>nomatch h) fun _=>?_))
 refine RD.nil (k2 _ _ (kq [4] ?_))
 obtain rfl:=sj H
 refine T.rt (Cont.retC 1 rfl ty33.h rfl rfl rfl fun w' s=>?_)
 exact ⟨rfl,s.ext⟩
theorem ground_Under_fwalk (a0_g:Grd) (a1_p:Vec) (w:World) {v0:Value} {r:Int} (H:ground_Under a0_g a1_p = some r):Calls Tryz.prog 212 #[.agg #[.int .i64 a0_g.w,.int .i64 a0_g.h,v0],.agg #[.int .i64 a1_p.x,.int .i64 a1_p.y]] w fun e w'=>e = .returned (.int .i64 r)∧Ext w w':=by
 unfold ground_Under at H
 refine te Tryz.func212 (Sat.start w) ?_
 refine T.seq fun _ k1=>T.region (RS.solid (Sd.box (cs:=[_,_,_]) rfl rfl) rfl rfl fun b1=>RS.solid (Sd.box (cs:=[_,_]) rfl rfl) rfl rfl fun b2=>rA rfl (RS.nil (k1 _ _ (kq [2,3] ?_))))
 refine T.seq fun _ k2=>T.seq fun _ k3=>T.region (au 4 ?_)
 obtain ⟨g5,H⟩:=gdE H
 refine RS.joinV 7 15 (.bool (decide ((a1_p.x < 0) ∨ ((a0_g.w * 65536) ≤ a1_p.x)))) [(2,_),(3,_)] sb ?_ ?_
 ·refine rM rfl ?_
  refine RS.joinV 4 20 (.bool (decide (((a1_p.x < 0) ∨ ((a0_g.w * 65536) ≤ a1_p.x)) ∨ (a1_p.y < 0)))) [(2,_),(3,_)] sb ?_ ?_
  ·refine rM rfl ?_
   obtain ⟨g10,H⟩:=gdE H
   refine RS.joinV 7 28 (.bool (decide ((((a1_p.x < 0) ∨ ((a0_g.w * 65536) ≤ a1_p.x)) ∨ (a1_p.y < 0)) ∨ ((a0_g.h * 65536) ≤ a1_p.y)))) [(2,_),(3,_)] sb ?_ ?_
   ·refine RS.nil (k3 _ _ ?_)
    refine T.cP H rfl (fun _ H=>nomatch H) (fun hc11 H=>?_)
    refine T.skip (k2 _ _ ?_)
    refine T.seq fun _ k5=>T.region (au 2 ?_)
    obtain ⟨g12,H⟩:=gdE H
    refine rp (Pu.quoN rfl rfl ⟨g12.1,g12.2,by decide⟩) (au 4 ?_)
    obtain ⟨g13,H⟩:=gdE H
    refine rp (Pu.quoN rfl rfl ⟨g13.1,g13.2,by decide⟩) ?_
    obtain ⟨g14,H⟩:=gdE H
    refine rp (Pu.mulS rfl rfl g14) ?_
    obtain ⟨g15,H⟩:=gdE H
    refine rp (Pu.addS rfl rfl g15) (rA rfl (RS.nil (k5 _ _ (kq [4] ?_))))
    obtain rfl:=sj H
    refine T.rt (Cont.ret1 rfl rfl fun w' s=>?_)
    exact ⟨rfl,s.ext⟩
   intro hJ9
   refine RS.splitP 21 rfl (fun hc8=>?_) (fun hc8=>?_)
   ·refine au 7 ?_
    exact hJ9 _ _ ⟨dOrT hc8,rfl,rfl,trivial⟩ (fun w s=>s)
   refine au 4 ?_
   refine rp (Pu.mulS rfl rfl (g10 hc8)) (au 2 ?_)
   exact hJ9 _ _ ⟨dOrF hc8,rfl,rfl,trivial⟩ (fun w s=>s)
  intro hJ7
  refine RS.splitP 16 rfl (fun hc6=>?_) (fun hc6=>?_)
  ·refine au 4 ?_
   exact hJ7 _ _ ⟨dOrT hc6,rfl,rfl,trivial⟩ (fun w s=>s)
  refine au 4 ?_
  exact hJ7 _ _ ⟨dOrF hc6,rfl,rfl,trivial⟩ (fun w s=>s)
 intro hJ4
 refine RS.splitP 8 rfl (fun hc3=>?_) (fun hc3=>?_)
 ·refine au 7 ?_
  exact hJ4 _ _ ⟨dOrT hc3,rfl,rfl,trivial⟩ (fun w s=>s)
 refine au 4 ?_
 refine rp (Pu.mulS rfl rfl (g5 hc3)) (au 2 ?_)
 exact hJ4 _ _ ⟨dOrF hc3,rfl,rfl,trivial⟩ (fun w s=>s)
theorem ground_Beside_fwalk (a0_g:Grd) (a1_t:Int) (w:World) {v0:Value} {r:List Int} (H:ground_Beside a0_g a1_t = some r):Calls Tryz.prog 269 #[.agg #[.int .i64 a0_g.w,.int .i64 a0_g.h,v0],.int .i64 a1_t] w fun e w'=>e = .returned (.agg (nums r).toArray)∧Ext w w':=by
 unfold ground_Beside at H
 refine te Tryz.func269 (Sat.start w) ?_
 refine T.seq fun _ k1=>T.region (RS.solid (Sd.box (cs:=[_,_,_]) rfl rfl) rfl rfl fun b1=>RS.solid (Sd.alloc (cs:=nums (List.replicate 8 0)) zr343 rfl) rfl rfl fun b2=>RS.nil (k1 _ _ ?_))
 refine T.seq fun _ k2=>dr mixed [0,0,1,0,0,0,1,0,0,0] ?_
 refine au 3 ?_
 obtain ⟨g3,H⟩:=gdE H
 refine dp rfl (Pu.remN rfl rfl (and3 g3)) (au 3 ?_)
 obtain ⟨g4,H⟩:=gdE H
 refine dp rfl (Pu.quoN rfl rfl g4) (au 2 ?_)
 refine RD.nil (k2 _ _ (kq [2,4,5,6] ?_))
 refine T.seq fun _ k3=>T.seq fun _ k4=>T.region ?_
 obtain ⟨x5,hx5,H⟩:=bindE H
 refine rq (Qt.call (vs:=[]) ent306 rfl fun w s=>ground_Ways_walk  w  hx5) (rM rfl (RS.nil (k4 _ _ ?_)))
 refine T.joinE (σ:=List Int) (γ:=Unit) H (fun s=>s) [(4,_)] sb (fun v7 _=>[]) (fun v7 _=>Sat w [blk b1 [.int .i64 a0_g.w,.int .i64 a0_g.h,v0] 24,blk b2 (nums v7) 343]) ?_ ?_
 ·rintro v7 ⟨⟩ H
  try dsimp only [Ex.then] at H
  refine Cont.kq [4] ?_
  refine id (k3 _ _ ?_)
  refine T.seq fun _ k5=>T.region ?_
  obtain ⟨g8,H⟩:=gdE H
  refine rq (Qt.ldBA (us:=nums v7) 1 ty343.h rfl rfl (by rw [List.drop_zero]; exact List.take_of_length_le (by simp [nums,g8])) (by simp [nums,g8])) ?_
  obtain ⟨g9,H⟩:=gdE H
  refine RS.solid (Sd.stB (cs':=nums v7) (us:=nums v7) 1 ty343.h rfl rfl rfl (by first | rfl | simp [Value.cells]) (by simp [nums,(g9).2]) (by simp [nums,(g9).1]) (by simp [nums,Value.oneCell']) (by rw [List.take_zero,List.nil_append,List.drop_of_length_le (by simp [nums,(g9).1]),List.append_nil])) rfl rfl fun _=>RS.nil (k5 _ _ ?_)
  obtain ⟨g10,H⟩:=gdE H
  obtain rfl:=sj H
  refine T.rt (Cont.retC 1 rfl ty343.h rfl rfl (by simp [nums,g10]) fun w' s=>?_)
  exact ⟨rfl,s.ext⟩
 intro z6 hz6 HX6 hJ6
 refine T.block ?_
 refine T.loopA (γ:=Unit) hz6 [(2,_),(4,_),(5,_),(6,_),(17,_)] (fun (v11,v12) _=>[(18,.int .i64 v11)]) (fun (v11,v12) _=>Sat w [blk b1 [.int .i64 a0_g.w,.int .i64 a0_g.h,v0] 24,blk b2 (nums v12) 343]) () sb sb (fun w s=>s) ?_
 rintro ⟨v11,v12⟩ ⟨⟩ y13 H hd6 KL6 hL6
 try dsimp only [Ex.then] at H
 refine kq [18,2,4,5,6,17] ?_
 refine au 2 ?_
 refine T.seq fun _ k7=>?_
 refine T.cP H rfl (fun hc14 H=>?_) (fun hc14 H=>?_)
 ·refine T.skip (k7 _ _ ?_)
  refine T.seq fun _ k8=>T.block (T.seq fun _ k9=>T.region (rM rfl ?_))
  obtain ⟨g15,H⟩:=gdE H
  refine rp (Pu.indexN2 (xs:=x5) ar379 ty340.h rfl rfl g15) (RS.solid (Sd.alloc zr340 rfl) rfl rfl fun b16=>au 2 ?_)
  refine RS.nil (k9 _ _ (kq [2,4,5,6,7,8,17,18] ?_))
  refine T.seq fun _ k10=>T.region (rM rfl ?_)
  obtain ⟨g17,H⟩:=gdE H
  refine rp (Pu.indexAr ar343 rfl rfl (by have:=g17; omega)) (RS.solid (Sd.stAr 1 ty3.h rfl rfl rfl rfl (by have:=g17; omega)) rfl rfl fun _=>RS.nil (k10 _ _ ?_))
  refine T.seq fun _ k11=>T.region (au 2 ?_)
  refine rp (Pu.indexAr ar340 rfl rfl (by omega)) (rq (Qt.ldB 2 ty3.h rfl rfl rfl) ?_)
  obtain ⟨g18,H⟩:=gdE H
  refine rp (Pu.addS rfl rfl g18) (rM rfl (rp (Pu.indexAr ar340 rfl rfl (by omega)) (rq (Qt.ldB 2 ty3.h rfl rfl rfl) ?_)))
  obtain ⟨g19,H⟩:=gdE H
  refine rp (Pu.addS rfl rfl g19) ?_
  obtain ⟨x20,hx20,H⟩:=bindE H
  refine rq (Qt.call (vs:=[_,_,_]) ent304 rfl fun w s=>ground_On_fwalk a0_g ((a1_t % a0_g.w) + (gi x5 (2 * v11))) ((a1_t / a0_g.w) + (gi x5 (2 * v11 + 1))) w  hx20) (RS.nil (k11 _ _ ?_))
  refine T.cB H rfl (fun hc21 H=>?_) (fun hc21 H=>?_)
  ·refine kq [2,4,5,6,7,8,17,18] ?_
   refine T.region (au 2 ?_)
   refine rp (Pu.indexAr ar340 rfl rfl (by omega)) (rq (Qt.ldB 2 ty3.h rfl rfl rfl) ?_)
   obtain ⟨g22,H⟩:=gdE H
   refine rp (Pu.addS rfl rfl g22) (au 3 ?_)
   refine rp (Pu.indexAr ar340 rfl rfl (by omega)) (rq (Qt.ldB 2 ty3.h rfl rfl rfl) ?_)
   obtain ⟨g23,H⟩:=gdE H
   refine rp (Pu.addS rfl rfl g23) ?_
   obtain ⟨g24,H⟩:=gdE H
   refine rp (Pu.mulS rfl rfl g24) ?_
   obtain ⟨g25,H⟩:=gdE H
   refine rp (Pu.addS rfl rfl g25) ?_
   obtain ⟨g26,H⟩:=gdE H
   refine rp (Pu.indexAr ar343 rfl rfl (by have:=g26; omega)) (RS.solid (Sd.stAr 1 ty3.h rfl rfl rfl rfl (by have:=g26; omega)) rfl rfl fun _=>RS.nil (k8 _ _ (kq [2,4,5,6,17,18] ?_)))
   refine T.region ?_
   obtain ⟨g27,H⟩:=gdE H
   refine rp (Pu.addS rfl rfl g27) (rM rfl (RS.nil (hL6 _ _ ((v11 + 1),(si (si v12 v11 (-1)) v11 (((a1_t % a0_g.w) + (gi x5 (2 * v11))) + (a0_g.w * ((a1_t / a0_g.w) + (gi x5 (2 * v11 + 1))))))) () H sb sb (fun w s=>s.pc [0,1]))))
  refine T.skip (k8 _ _ (kq [2,4,5,6,17,18] ?_))
  refine T.region ?_
  obtain ⟨g28,H⟩:=gdE H
  refine rp (Pu.addS rfl rfl g28) (rM rfl (RS.nil (hL6 _ _ ((v11 + 1),(si v12 v11 (-1))) () H sb sb (fun w s=>s.pc [0,1]))))
 obtain rfl:=hd6 _ H
 refine T.xt (hJ6 _ _ v12 () HX6 sb trivial (fun w s=>s))
theorem ground_Is_fwalk (a0_g:Grd) (a1_t:Int) (w:World) {v0:Value} {r:Bool} (H:ground_Is a0_g a1_t = some r):Calls Tryz.prog 170 #[.agg #[.int .i64 a0_g.w,.int .i64 a0_g.h,v0],.int .i64 a1_t] w fun e w'=>e = .returned (.bool r)∧Ext w w':=by
 unfold ground_Is at H
 refine te Tryz.func170 (Sat.start w) ?_
 refine T.seq fun _ k1=>T.region (RS.solid (Sd.box (cs:=[_,_,_]) rfl rfl) rfl rfl fun b1=>rA rfl (RS.nil (k1 _ _ ?_)))
 refine T.seq fun _ k2=>T.region (au 3 ?_)
 obtain ⟨g4,H⟩:=gdE H
 refine RS.joinV 8 15 (.bool (decide ((0 ≤ a1_t)∧(a1_t < (a0_g.w * a0_g.h))))) [(4,_)] sb ?_ ?_
 ·refine rA rfl (RS.nil (k2 _ _ ?_))
  obtain rfl:=sj H
  refine T.rt (Cont.ret1 rfl rfl fun w' s=>?_)
  exact ⟨rfl,s.ext⟩
 intro hJ3
 refine RS.splitP 7 rfl (fun hc2=>?_) (fun hc2=>?_)
 ·refine au 5 ?_
  refine rp (Pu.mulS rfl rfl (g4 hc2)) (au 2 ?_)
  exact hJ3 _ _ ⟨dAndT hc2,rfl,trivial⟩ (fun w s=>s)
 refine au 8 ?_
 exact hJ3 _ _ ⟨dAndF hc2,rfl,trivial⟩ (fun w s=>s)
theorem disc_Hits_fwalk (a0_g:Grd) (a1_t:Int) (a2_p:Vec) (a3_r:Int) (w:World) {v0:Value} {r:Bool} (H:disc_Hits a0_g a1_t a2_p a3_r = some r):Calls Tryz.prog 176 #[.agg #[.int .i64 a0_g.w,.int .i64 a0_g.h,v0],.int .i64 a1_t,.agg #[.int .i64 a2_p.x,.int .i64 a2_p.y],.int .i64 a3_r] w fun e w'=>e = .returned (.bool r)∧Ext w w':=by
 unfold disc_Hits at H
 refine te Tryz.func176 (Sat.start w) ?_
 refine T.seq fun _ k1=>T.region (RS.solid (Sd.box (cs:=[_,_,_]) rfl rfl) rfl rfl fun b1=>RS.solid (Sd.box (cs:=[_,_]) rfl rfl) rfl rfl fun b2=>rA rfl (RS.nil (k1 _ _ (kq [1,3,4,6] ?_))))
 refine T.seq fun _ k2=>dr mixed [0,0,1,0,0,0,0,1,0,0,0,0] ?_
 refine au 3 ?_
 obtain ⟨g3,H⟩:=gdE H
 refine dp rfl (Pu.remN rfl rfl (and3 g3)) ?_
 obtain ⟨g4,H⟩:=gdE H
 refine dp rfl (Pu.mulS rfl rfl g4) (au 3 ?_)
 obtain ⟨g5,H⟩:=gdE H
 refine dp rfl (Pu.quoN rfl rfl g5) ?_
 obtain ⟨g6,H⟩:=gdE H
 refine dp rfl (Pu.mulS rfl rfl g6) (au 2 ?_)
 refine RD.nil (k2 _ _ (kq [3,6,9,10] ?_))
 refine T.seq fun _ k3=>T.region (au 3 ?_)
 refine rp (Pu.maxI rfl rfl) (rM rfl ?_)
 obtain ⟨g7,H⟩:=gdE H
 refine rp (Pu.addS rfl rfl g7) (rp (Pu.minI rfl rfl) (au 3 ?_))
 refine rp (Pu.maxI rfl rfl) (rM rfl ?_)
 obtain ⟨g8,H⟩:=gdE H
 refine rp (Pu.addS rfl rfl g8) (rp (Pu.minI rfl rfl) (rp (Pu.build (cells:=[_,_]) st33 rfl rfl) (RS.solid (Sd.alloc zr33 rfl) rfl rfl fun b9=>RS.solid (Sd.stB (cs':=[_,_]) 2 ty33.h rfl rfl rfl rfl rfl rfl rfl rfl) rfl rfl fun _=>RS.nil (k3 _ _ (kq [3,6,11] ?_)))))
 refine T.seq fun _ k4=>T.region (au 3 ?_)
 obtain ⟨x10,hx10,H⟩:=bindE H
 refine rq (Qt.call (vs:=[_,_,_]) ent179 rfl fun w s=>vec_Within_walk a2_p (⟨(min (max a2_p.x ((a1_t % a0_g.w) * 65536)) (((a1_t % a0_g.w) * 65536) + 65536)),(min (max a2_p.y ((a1_t / a0_g.w) * 65536)) (((a1_t / a0_g.w) * 65536) + 65536))⟩:Vec) a3_r w  hx10) (rA rfl (RS.nil (k4 _ _ (kq [8] ?_))))
 obtain rfl:=sj H
 refine T.rt (Cont.ret1 rfl rfl fun w' s=>?_)
 exact ⟨rfl,s.ext⟩
end Go.Proofs.YtmngdgclldkcfaaGreat
set_option linter.unusedVariables false
set_option linter.unusedSimpArgs false
set_option maxRecDepth 20000
set_option maxHeartbeats 4000000
namespace Go.Proofs.YtmngdgclldkcfaaGreat
open Go.Vg
open Enc (R)
def apply_work_ask (ac:Cmd) (a0_w:Wrk) (a1_id:Int):Option (Unt × Int) :=
  Option.bind (army_At a0_w.s.w.us a1_id) fun x10 =>
  if (!x10.2) = true then
  none
  else
  if 0 ≤ x10.1∧x10.1 < (a0_w.s.w.us.length:Int) then
  if ¬ (gi a0_w.s.w.us x10.1).owner = ac.player then
  none
  else
  if ¬ (gi a0_w.s.w.us x10.1).inn = 0 then
  none
  else
  some ((gi a0_w.s.w.us x10.1),0)
  else none
def work_all (ac:Cmd) (a0_w:Wrk):Option (List Unt × Int) :=
  Option.bind (α:=Ex (List Unt) (List Unt × Int)) (loop (σ:=List Unt × Int) (β:=Ex (List Unt) (List Unt × Int)) (fun (l5,v7) =>
  if v7 < (ac.units.length:Int) then
  if 0 ≤ v7∧v7 < (ac.units.length:Int) then
  Option.bind (apply_work_ask ac a0_w (gi ac.units v7)) fun x13 =>
  Option.bind (α:=Int) (if (x13.2 = 0)∧(False) then
  none
  else
  some x13.2) fun v18 =>
  if ¬ v18 = 0 then
  none
  else
  if l5.length < 1099511627776 then
  if I64 (v7 + 1) then
  some (St.next ((l5 ++ [x13.1]),(v7 + 1)))
  else none
  else none
  else none
  else
  some (St.done (Ex.go l5))) ([],0)) fun x=>x.then fun v3 =>
  some (v3,0)
def work_about (ac:Cmd) (a0_w:Wrk) (a1_k:Int) (a2_tile:Int) (a3_n:Int):Option (List Int × Wrk) :=
  Option.bind (kind_What a1_k) fun x1 =>
  Option.bind (fields_Net a0_w.f a0_w.s.w.g a0_w.s.w.bs x1.cls x1.size) fun x11 =>
  Option.bind (slots_About a0_w.s.w.g x11.1.free x1.size a2_tile a3_n) fun x22 =>
  some (x22,(⟨a0_w.s,x11.2⟩:Wrk))
def apply_work_spawn (ac:Cmd) (a0_w:Wrk):Option (Int × Wrk) :=
  if ((a0_w.s.w.us.length:Int) = 4096) ∨ (a0_w.s.w.nextid = 1099511627776) then
  none
  else
  Option.bind (army_Place a0_w.s 0 ac.n ac.pos) fun x12 =>
  if (!x12.1) = true then
  none
  else
  Option.bind (apply_rest (⟨x12.2.w.nextid,ac.player,ac.n,ac.pos,0,0,0,0,0⟩:Unt)) fun x21 =>
  if x12.2.w.us.length < 1099511627776 then
  if I64 (x12.2.w.nextid + 1) then
  some (0,(⟨(⟨(⟨x12.2.w.tick,x12.2.w.players,(x12.2.w.nextid + 1),x12.2.w.g,x12.2.w.bs,(x12.2.w.us ++ [x21])⟩:Wld),x12.2.op,x12.2.cs⟩:Std),a0_w.f⟩:Wrk))
  else none
  else none
def apply_work_meets (ac:Cmd) (a0_w:Wrk) (a1_b:Bld):Option (Bool × Wrk) :=
  Option.bind (build_Tiles a0_w.s.w.g a1_b) fun x10 =>
  Option.bind (α:=Ex (Unit) (Bool × Wrk)) (loop (σ:=Int) (β:=Ex (Unit) (Bool × Wrk)) (fun v13 =>
  if v13 < (x10.length:Int) then
  if 0 ≤ v13∧v13 < (x10.length:Int) then
  Option.bind (ground_Mid a0_w.s.w.g (gi x10 v13)) fun x27 =>
  Option.bind (army_Near a0_w.s x27 65536) fun x28 =>
  Option.bind (α:=Ex (Unit) (St (Int) (Ex (Unit) (Bool × Wrk)))) (loop (σ:=Int) (β:=Ex (Unit) (St (Int) (Ex (Unit) (Bool × Wrk)))) (fun v39 =>
  if v39 < (x28.length:Int) then
  if 0 ≤ v39∧v39 < (x28.length:Int) then
  Option.bind (kind_What ((gi x28 v39).kind)) fun x54 =>
  Option.bind (disc_Hits a0_w.s.w.g (gi x10 v13) ((gi x28 v39).pos) x54.radius) fun x55 =>
  if x55 = true then
  none
  else
  if I64 (v39 + 1) then
  some (St.next (v39 + 1))
  else none
  else none
  else
  some (St.done (Ex.go ()))) 0) fun x=>x.then fun _ =>
  if I64 (v13 + 1) then
  some (St.next (v13 + 1))
  else none
  else none
  else
  some (St.done (Ex.go ()))) 0) fun x=>x.then fun _ =>
  some (false,a0_w)
def apply_work_build (ac:Cmd) (a0_w:Wrk):Option (Int × Wrk) :=
  Option.bind (ground_Is a0_w.s.w.g ac.tile) fun x10 =>
  if (!x10) = true then
  none
  else
  if a0_w.s.w.nextid = 1099511627776 then
  none
  else
  if 0 ≤ ac.tile∧ac.tile ≤ 9223372036854775807∧(1:Int) ≤ a0_w.s.w.g.w then
  if 0 ≤ ac.tile∧ac.tile ≤ 9223372036854775807∧(1:Int) ≤ a0_w.s.w.g.w then
  Option.bind (build_Put a0_w.s.w.g a0_w.s.w.bs (⟨a0_w.s.w.nextid,ac.player,(ac.tile % a0_w.s.w.g.w),(ac.tile / a0_w.s.w.g.w),ac.w,ac.h⟩:Bld)) fun x16 =>
  if ¬ x16.2 = 0 then
  none
  else
  Option.bind (apply_work_meets ac a0_w (⟨a0_w.s.w.nextid,ac.player,(ac.tile % a0_w.s.w.g.w),(ac.tile / a0_w.s.w.g.w),ac.w,ac.h⟩:Bld)) fun x19 =>
  if x19.1 = true then
  none
  else
  if I64 (x19.2.s.w.nextid + 1) then
  some (0,(⟨(⟨(⟨x19.2.s.w.tick,x19.2.s.w.players,(x19.2.s.w.nextid + 1),x19.2.s.w.g,x16.1,x19.2.s.w.us⟩:Wld),x19.2.s.op,x19.2.s.cs⟩:Std),x19.2.f⟩:Wrk))
  else none
  else none
  else none
def work_move (ac:Cmd) (a0_w:Wrk):Option (Int × Wrk) :=
  Option.bind (ground_Is a0_w.s.w.g ac.tile) fun x9 =>
  if (!x9) = true then
  none
  else
  Option.bind (work_all ac a0_w) fun x11 =>
  if ¬ x11.2 = 0 then
  none
  else
  Option.bind (α:=Wrk × List (Int × List Int)) (loop (σ:=Int × Wrk × List (Int × List Int)) (β:=Wrk × List (Int × List Int)) (fun (v18,v19,v20) =>
  if v18 < (x11.1.length:Int) then
  if 0 ≤ v18∧v18 < (x11.1.length:Int) then
  Option.bind (α:=Wrk × List (Int × List Int)) (if (!((kget v20 ((gi x11.1 v18).kind)).isSome)) = true then
  Option.bind (work_about ac v19 ((gi x11.1 v18).kind) ac.tile (x11.1.length:Int)) fun x47 =>
  if (kget v20 ((gi x11.1 v18).kind)).isNone = true then
  some (x47.2,(kput v20 ((gi x11.1 v18).kind) x47.1))
  else none
  else
  some (v19,v20)) fun (v30,v31) =>
  if v18 < (((kget v31 ((gi x11.1 v18).kind)).getD []).length:Int) then
  if 0 ≤ v18∧v18 < (((kget v31 ((gi x11.1 v18).kind)).getD []).length:Int) then
  Option.bind (army_Put v30.s (⟨(gi x11.1 v18).id,(gi x11.1 v18).owner,(gi x11.1 v18).kind,((gi x11.1 v18).pos),(gi ((kget v31 ((gi x11.1 v18).kind)).getD []) v18),(-1),0,(gi x11.1 v18).inn,1⟩:Unt)) fun x41 =>
  if I64 (v18 + 1) then
  some (St.next ((v18 + 1),(⟨x41,v30.f⟩:Wrk),v31))
  else none
  else none
  else
  Option.bind (army_Put v30.s (⟨(gi x11.1 v18).id,(gi x11.1 v18).owner,(gi x11.1 v18).kind,((gi x11.1 v18).pos),ac.tile,(-1),0,(gi x11.1 v18).inn,1⟩:Unt)) fun x43 =>
  if I64 (v18 + 1) then
  some (St.next ((v18 + 1),(⟨x43,v30.f⟩:Wrk),v31))
  else none
  else none
  else
  some (St.done (v19,v20))) (0,a0_w,([]:List (Int × List Int)))) fun (v16,v17) =>
  some (0,v16)
def work_drop (ac:Cmd) (a0_w:Wrk):Option (Int × Wrk) :=
  Option.bind (slices_IndexFuncB a0_w.s.w.bs (fun y0:Bld=>some (decide (y0.id = ac.n)))) fun x10 =>
  if x10 < 0 then
  none
  else
  if 0 ≤ x10∧x10 < (a0_w.s.w.bs.length:Int) then
  if ¬ (gi a0_w.s.w.bs x10).owner = ac.player then
  none
  else
  if I64 (x10 + 1) then
  Option.bind (slices_Clone_Bld a0_w.s.w.bs) fun x17 =>
  Option.bind (slices_Delete x17 x10 (x10 + 1)) fun x19 =>
  some (0,(⟨(⟨(⟨a0_w.s.w.tick,a0_w.s.w.players,a0_w.s.w.nextid,a0_w.s.w.g,x19,a0_w.s.w.us⟩:Wld),a0_w.s.op,a0_w.s.cs⟩:Std),a0_w.f⟩:Wrk))
  else none
  else none
def work_does (ac:Cmd) (a0_w:Wrk):Option (Int × Wrk) :=
  if ac.kind = 1 then
  Option.bind (apply_work_spawn ac a0_w) fun x3 =>
  some (x3.1,x3.2)
  else
  if ac.kind = 2 then
  Option.bind (work_move ac a0_w) fun x5 =>
  some (x5.1,x5.2)
  else
  if ac.kind = 3 then
  none
  else
  if ac.kind = 4 then
  Option.bind (apply_work_build ac a0_w) fun x8 =>
  some (x8.1,x8.2)
  else
  if ac.kind = 5 then
  Option.bind (work_drop ac a0_w) fun x10 =>
  some (x10.1,x10.2)
  else
  none
end Go.Proofs.YtmngdgclldkcfaaGreat
