/-
  Texts of one's own, joined: YP LX XC YL YR YM YN YQ YS.
-/
import Derived.Test.YtmngdgclldkcfaaGreatRows
import Derived.Test.YtmngdgclldkcfaaGreatJ6
import Derived.Test.YtmngdgclldkcfaaGreatJ7
import Derived.Test.YtmngdgclldkcfaaGreatJ18
import Derived.Test.YtmngdgclldkcfaaGreatJ17
import Derived.Test.YtmngdgclldkcfaaGreatJ10
import Derived.Test.YtmngdgclldkcfaaGreatNH
import Derived.Test.YtmngdgclldkcfaaGreatJ8
set_option linter.unusedVariables false
set_option linter.unusedSimpArgs false
set_option maxRecDepth 20000
set_option maxHeartbeats 4000000
namespace Go.Proofs.YtmngdgclldkcfaaGreat
open Go.Vg
open Enc (R)
theorem ent116:Ent Tryz.prog 116:=en Tryz.func116
theorem ent117:Ent Tryz.prog 117:=en Tryz.func117
theorem st164:stTy Tryz.prog 164 = some ([.int .i64 0,.int .i64 0,.int .i64 0,.int .i64 0,.int .i64 0,.slice none 0 0,.slice none 0 0,.slice none 0 0,.slice none 0 0,.slice none 0 0,.slice none 0 0,.pointer none],[(0,8),(8,3),(11,1)]):=by kernel_rfl
def openL:Nat→List Unt→Cls→Option Cls
  | 0,_,o=>some o
  | n + 1,l,o=>match l with
    | []=>some o
    | u :: l=>if u.inn = 0 then Option.bind (cells_Put o u.id u.pos) fun o=>openL n l o else openL n l o
def army_Open (W:Wld):Option Std:=if (W.us.length:Int) < 1099511627776 then Option.bind (openL W.us.length W.us none) fun o=>some ⟨W,⟨none,none,none⟩,o⟩ else none
theorem openL_states:∀ {l:List Unt} {o r:Cls},openL l.length l o = some r→∃ st:Nat→Cls,st 0 = o∧st l.length = r∧∀ k,k < l.length→(if (gi l k).inn = 0 then cells_Put (st k) (gi l k).id (gi l k).pos = some (st (k + 1)) else st (k + 1) = st k)
 | [],o,r,h=>⟨fun _=>o,rfl,Option.some.inj h,fun k hk=>absurd hk (Nat.not_lt_zero _)⟩
 | u :: l,o,r,h=>by
  have h2:∃ p,(if u.inn = 0 then cells_Put o u.id u.pos = some p else p = o)∧openL l.length l p = some r:=by
   by_cases hc:u.inn = 0
   ·simp only [List.length_cons,openL] at h
    rw [if_pos hc] at h
    obtain ⟨p,hp,h⟩:=bindE h
    exact ⟨p,by rw [if_pos hc]; exact hp,h⟩
   ·simp only [List.length_cons,openL] at h
    rw [if_neg hc] at h
    exact ⟨o,by rw [if_neg hc],h⟩
  obtain ⟨p,hp,h⟩:=h2
  obtain ⟨st,e0,en,es⟩:=openL_states h
  refine ⟨fun k=>match k with | 0=>o | k + 1=>st k,rfl,en,fun k hk=>?_⟩
  cases k with
  | zero=>show (if u.inn = 0 then cells_Put o u.id u.pos = some (st 0) else st 0 = o); rw [e0]; exact hp
  | succ k =>
   have h5:=es k (by simpa using hk)
   show (if (gi (u :: l) ((k + 1:Nat):Int)).inn = 0 then cells_Put (st k) (gi (u :: l) ((k + 1:Nat):Int)).id (gi (u :: l) ((k + 1:Nat):Int)).pos = some (st (k + 1)) else st (k + 1) = st k)
   rw [show gi (u :: l) ((k + 1:Nat):Int) = gi l k by simp [gi]]
   exact h5
theorem army_Open_walk {w0:World} {F:Ch} (W:Wld) {qt qb qu:Option Nat × Nat} {r:Std} (H:army_Open W = some r) (w:World) (s:Sat w0 [row nilH 5 (rowV qt W.g.tiles.length) W.g.tiles,row nilH 135 (rowV qb W.bs.length) W.bs,row nilH 54 (rowV qu W.us.length) W.us,F] w):Calls Tryz.prog 71 #[.agg #[.int .i64 W.tick,.int .i64 W.players,.int .i64 W.nextid,.int .i64 W.g.w,.int .i64 W.g.h,rowV qt W.g.tiles.length,rowV qb W.bs.length,rowV qu W.us.length]] w fun e w'=>∃ g:Nat,e = .returned (.pointer (some ⟨g,0,none⟩))∧Sat w0 ([Std_ch g r] ++ [F]) w':=by
 refine te Tryz.func71 s ?_
 unfold army_Open at H
 obtain ⟨hn,H⟩:=gdE H
 obtain ⟨o,ho,H⟩:=bindE H
 obtain rfl:=sj H
 obtain ⟨st,e0,en,es⟩:=openL_states ho
 refine T.seq fun _ k1=>T.region (RS.solid (Sd.box (cs:=[_,_,_,_,_,_,_,_]) rfl rfl) rfl rfl fun b1=>rA rfl (RS.nil (k1 _ _ ?_)))
 refine T.seq fun _ k2=>dr mixed [1,3,0,3,0] ?_
 refine dq rfl (Qt.ldBA (us:=[_,_,_,_,_,_,_,_]) 4 ty52.h rfl rfl rfl rfl) (RD.solid rfl (.inl rfl) rfl rfl (Sd.callN ent116 rfl (fun w s=>cells_New_walk w rfl)) (fun _=>ClE.sat _ _) (fun _ _ _=>trivial) (fun _ _ _ s=>s.drop1) fun g7=>?_)
 refine dp rfl (Pu.build (cells:=[_,_,_,_,_,_,_,_,_,_,_,_]) st164 rfl rfl) (RD.solid rfl (.inl rfl) rfl rfl (Sd.box (cs:=[_,_,_,_,_,_,_,_,_,_,_,_]) rfl rfl) (fun _=>ClE.sat _ _) (fun _ _ _=>trivial) (fun _ _ _ s=>s.drop1) fun b9=>?_)
 refine dp rfl (Pu.assign rfl) (RD.nil (k2 _ _ (kq [1,3] ?_)))
 refine T.seq fun _ k3=>au 5 ?_
 refine T.block ?_
 refine T.loopK (σ:=Nat) [(3,_),(11,_),(12,_)] (fun i=>[(13,.int .i64 (i:Nat))]) (fun i=>Sat w0 [row nilH 5 (rowV qt W.g.tiles.length) W.g.tiles,row nilH 135 (rowV qb W.bs.length) W.bs,row nilH 54 (rowV qu W.us.length) W.us,F,blk b1 [.int .i64 W.tick,.int .i64 W.players,.int .i64 W.nextid,.int .i64 W.g.w,.int .i64 W.g.h,rowV qt W.g.tiles.length,rowV qb W.bs.length,rowV qu W.us.length] 52,Cells_ch g7 (st i),blk b9 [.int .i64 W.tick,.int .i64 W.players,.int .i64 W.nextid,.int .i64 W.g.w,.int .i64 W.g.h,rowV qt W.g.tiles.length,rowV qb W.bs.length,rowV qu W.us.length,.slice none 0 0,.slice none 0 0,.slice none 0 0,.pointer (some ⟨g7,0,none⟩)] 164]) (fun i=>i ≤ W.us.length) (fun i=>W.us.length - i) 0 (Nat.zero_le _) sb sb (fun w s=>by rw [e0]; exact s) ?_
 intro i hI K4_ hL1
 refine kq [13,3,11,12] ?_
 refine au 2 ?_
 refine T.seq fun _ k6=>?_
 refine T.condP rfl (fun hc14=>?_) (fun hc14=>?_)
 ·have hs:=es i (by omega)
  refine T.skip (k6 _ _ ?_)
  refine T.seq fun _ k7=>T.block (T.seq fun _ k8=>T.region ?_)
  refine RS.know (p:=∃ g cap,qu = (some g,cap)) (fun w s=>s.row_some (k:=2) rfl (by first | omega | (simp only [len_si,List.length_append,List.length_replicate,List.length_cons,List.length_nil,List.length_map,List.length_take] at *; omega))) ?_
  rintro ⟨g2_qu,cap2_qu,rfl⟩
  refine rp (Pu.indexSl sl50.h rfl rfl (by first | omega | (simp only [len_si,List.length_append,List.length_replicate,List.length_cons,List.length_nil,List.length_map,List.length_take] at *; omega))) (rq (Qt.ldW (α:=Unt) (cs:=[_,_,_,_,_,_,_,_,_,_]) (Rd.ofRowN 2 rfl) ty54.h rfl rfl (by first | omega | (simp only [len_si,List.length_append,List.length_replicate,List.length_cons,List.length_nil,List.length_map,List.length_take] at *; omega)) rfl (by rintro _ _ rfl; rfl)) (RS.solid (Sd.alloc zr54 rfl) rfl rfl fun b5=>RS.solid (Sd.stB (cs':=[_,_,_,_,_,_,_,_,_,_]) 7 ty54.h rfl rfl rfl rfl rfl rfl rfl rfl) rfl rfl fun _=>RS.nil (k8 _ _ (kq [3,5,11,12,13] ?_))))
  refine au 4 ?_
  refine T.condP rfl (fun hc19=>?_) (fun hc19=>?_)
  ·rw [if_pos hc19] at hs
   refine kq [3,5,11,12,13] ?_
   refine dr mixed [0,0,0,1,0,1,0,1,4] ?_
   refine au 8 ?_
   refine RD.solid rfl (.inr rfl) rfl rfl (Sd.callF0 5 ent117 rfl rfl (fun w s=>cells_Put_walk g7 (st i) _ (gi W.us (i:Nat)).pos hs w s)) (fun _=>ClE.sat _ _) (fun _ _ _=>trivial) (fun h=>nomatch h) fun _=>?_
   refine RD.nil (k7 _ _ (kq [3,11,12,13] ?_))
   refine T.region (rp (Pu.addS rfl rfl (by omega)) (rM rfl (RS.nil (hL1 _ _ (i + 1) (by omega) (by omega) ⟨congrArg (fun z=>some (Value.int .i64 z)) (by omega),rfl,rfl,rfl,trivial⟩ (fun w s=>s.pc [0,1,2,3,4,5,6])))))
  rw [if_neg hc19] at hs
  refine T.skip (k7 _ _ (kq [3,11,12,13] ?_))
  refine T.region (rp (Pu.addS rfl rfl (by omega)) (rM rfl (RS.nil (hL1 _ _ (i + 1) (by omega) (by omega) ⟨congrArg (fun z=>some (Value.int .i64 z)) (by omega),rfl,rfl,rfl,trivial⟩ (fun w s=>by rw [hs]; exact s.pc [0,1,2,3,4,5,6])))))
 obtain rfl:i = W.us.length:=by omega
 refine T.exitTo (by with_reducible (repeat (first | exact ExTo.here | exact ExTo.hereN | exact ExTo.deep (by repeat (first | exact NmTo.seq | apply NmTo.blk)) | apply ExTo.seq | refine ExTo.past (by decide) ?_))) (k3 _ _ (kq [3] ?_))
 refine au 3 ?_
 refine T.retTo (by with_reducible ((repeat (first | apply RetTo.seq | apply RetTo.blk)); exact RetTo.refl _)) (Cont.ret1 rfl rfl fun w' s=>?_)
 exact ⟨b9,rfl,Std_shut (x:=⟨W,⟨none,none,none⟩,o⟩) (qt,qb,qu,.slice none 0 0,.slice none 0 0,.slice none 0 0,g7) ((s.opnNil (e:=4)).pick [3,6,0,1,2,7,5] (by decide) (by rw [en]; rfl))⟩
end Go.Proofs.YtmngdgclldkcfaaGreat
set_option linter.unusedVariables false
set_option linter.unusedSimpArgs false
set_option maxRecDepth 20000
set_option maxHeartbeats 4000000
namespace Go.Proofs.YtmngdgclldkcfaaGreat
open Go.Vg
open Enc (R)
end Go.Proofs.YtmngdgclldkcfaaGreat
set_option linter.unusedVariables false
set_option linter.unusedSimpArgs false
set_option linter.unusedSectionVars false
namespace Go.Vg
open Go
open Enc (R)
section
variable {w0 w:World} {G:List Ch} {e g:Nat} {x:List (Int × List Int)}
theorem star_comm {A B:Ch} {h:Hp}:star A B h→star B A h:=fun ⟨p,q,a,b,d,l1,l2⟩=>⟨q,p,b,a,fun x=>(d x).symm,l2,l1⟩
end
section
variable {P:Program} {n:Nat} {fr:Fr} {dst:Option Tmp} {ty:TypeId} {pos:String} {aft:Array Edge} {gd:Option (Nat × Bool)} {w0:World} {G:List Ch} {e g:Nat} {x:List (Int × List Int)}
end
end Go.Vg
set_option linter.unusedVariables false
set_option linter.unusedSimpArgs false
set_option maxRecDepth 20000
set_option maxHeartbeats 4000000
namespace Go.Proofs.YtmngdgclldkcfaaGreat
open Go.Vg
open Enc (R)
structure Wrk where
  s:Std
  f:Fld
  deriving Inhabited
def Wrk_ch (g:Nat) (gf:Nat) (vc:Value) (ac:Cmd) (x:Wrk):Ch:=exch fun q:Nat=>stars ((blk g [.pointer (some ⟨q,0,none⟩),.int .i64 ac.player,.int .i64 ac.seq,.int .i64 ac.kind,.int .i64 ac.n,vc,.int .i64 ac.tile,.int .i64 ac.w,.int .i64 ac.h,.int .i64 ac.pos.x,.int .i64 ac.pos.y,.func (.func 40) #[.pointer (some ⟨gf,0,none⟩)] #[]] 159) :: [Std_ch q x.s,Fld_ch gf x.f])
theorem Wrk_open {w0 w:World} {G:List Ch} {g:Nat} {gf:Nat} {vc:Value} {ac:Cmd} {x:Wrk} (k:Nat) (hk:G[k]? = some (Wrk_ch g gf vc ac x)) (h:Sat w0 G w):∃ q:Nat,Sat w0 (G.set k (blk g [.pointer (some ⟨q,0,none⟩),.int .i64 ac.player,.int .i64 ac.seq,.int .i64 ac.kind,.int .i64 ac.n,vc,.int .i64 ac.tile,.int .i64 ac.w,.int .i64 ac.h,.int .i64 ac.pos.x,.int .i64 ac.pos.y,.func (.func 40) #[.pointer (some ⟨gf,0,none⟩)] #[]] 159) ++ [Std_ch q x.s,Fld_ch gf x.f]) w:=Sat.openAt (A:=fun q:Nat=>(blk g [.pointer (some ⟨q,0,none⟩),.int .i64 ac.player,.int .i64 ac.seq,.int .i64 ac.kind,.int .i64 ac.n,vc,.int .i64 ac.tile,.int .i64 ac.w,.int .i64 ac.h,.int .i64 ac.pos.x,.int .i64 ac.pos.y,.func (.func 40) #[.pointer (some ⟨gf,0,none⟩)] #[]] 159)) (L:=fun q:Nat=>[Std_ch q x.s,Fld_ch gf x.f]) k hk h
theorem Wrk_shut {w0 w:World} {R:List Ch} {g:Nat} {gf:Nat} {vc:Value} {ac:Cmd} {x:Wrk} (q:Nat) (h:Sat w0 (R ++ [blk g [.pointer (some ⟨q,0,none⟩),.int .i64 ac.player,.int .i64 ac.seq,.int .i64 ac.kind,.int .i64 ac.n,vc,.int .i64 ac.tile,.int .i64 ac.w,.int .i64 ac.h,.int .i64 ac.pos.x,.int .i64 ac.pos.y,.func (.func 40) #[.pointer (some ⟨gf,0,none⟩)] #[]] 159,Std_ch q x.s,Fld_ch gf x.f]) w):Sat w0 (Wrk_ch g gf vc ac x :: R) w:=Sat.toEx (C:=fun q:Nat=>stars ((blk g [.pointer (some ⟨q,0,none⟩),.int .i64 ac.player,.int .i64 ac.seq,.int .i64 ac.kind,.int .i64 ac.n,vc,.int .i64 ac.tile,.int .i64 ac.w,.int .i64 ac.h,.int .i64 ac.pos.x,.int .i64 ac.pos.y,.func (.func 40) #[.pointer (some ⟨gf,0,none⟩)] #[]] 159) :: [Std_ch q x.s,Fld_ch gf x.f])) q (Sat.toStars ((blk g [.pointer (some ⟨q,0,none⟩),.int .i64 ac.player,.int .i64 ac.seq,.int .i64 ac.kind,.int .i64 ac.n,vc,.int .i64 ac.tile,.int .i64 ac.w,.int .i64 ac.h,.int .i64 ac.pos.x,.int .i64 ac.pos.y,.func (.func 40) #[.pointer (some ⟨gf,0,none⟩)] #[]] 159) :: [Std_ch q x.s,Fld_ch gf x.f]) (G:=R) h)
structure Mvr where
 s:Std
 f:Fld
 deriving Inhabited
def Mvr_ch (g:Nat) (gf:Nat) (x:Mvr):Ch:=exch fun q:Nat=>stars ((blk g [.pointer (some ⟨q,0,none⟩),.iface 100 (.pointer (some ⟨gf,0,none⟩))] 185) :: [Std_ch q x.s,Fld_ch gf x.f])
theorem Mvr_open {w0 w:World} {G:List Ch} {g:Nat} {gf:Nat} {x:Mvr} (k:Nat) (hk:G[k]? = some (Mvr_ch g gf x)) (h:Sat w0 G w):∃ q:Nat,Sat w0 (G.set k (blk g [.pointer (some ⟨q,0,none⟩),.iface 100 (.pointer (some ⟨gf,0,none⟩))] 185) ++ [Std_ch q x.s,Fld_ch gf x.f]) w:=Sat.openAt (A:=fun q:Nat=>(blk g [.pointer (some ⟨q,0,none⟩),.iface 100 (.pointer (some ⟨gf,0,none⟩))] 185)) (L:=fun q:Nat=>[Std_ch q x.s,Fld_ch gf x.f]) k hk h
theorem Mvr_shut {w0 w:World} {R:List Ch} {g:Nat} {gf:Nat} {x:Mvr} (q:Nat) (h:Sat w0 (R ++ [blk g [.pointer (some ⟨q,0,none⟩),.iface 100 (.pointer (some ⟨gf,0,none⟩))] 185,Std_ch q x.s,Fld_ch gf x.f]) w):Sat w0 (Mvr_ch g gf x :: R) w:=Sat.toEx (C:=fun q:Nat=>stars ((blk g [.pointer (some ⟨q,0,none⟩),.iface 100 (.pointer (some ⟨gf,0,none⟩))] 185) :: [Std_ch q x.s,Fld_ch gf x.f])) q (Sat.toStars ((blk g [.pointer (some ⟨q,0,none⟩),.iface 100 (.pointer (some ⟨gf,0,none⟩))] 185) :: [Std_ch q x.s,Fld_ch gf x.f]) (G:=R) h)
end Go.Proofs.YtmngdgclldkcfaaGreat
set_option linter.unusedVariables false
set_option linter.unusedSimpArgs false
set_option maxRecDepth 20000
set_option maxHeartbeats 4000000
namespace Go.Proofs.YtmngdgclldkcfaaGreat
open Go.Vg
open Enc (R)
def mover_try (a0_m:Mvr) (a1_u:Unt) (a2_v:Vec):Option (Int × Mvr) :=
  Option.bind (vec_Norm a2_v) fun x3 =>
  Option.bind (α:=Ex (Unit) (Int × Mvr)) (loop (σ:=Int) (β:=Ex (Unit) (Int × Mvr)) (fun v5 =>
  if v5 < 5 then
  if (0 ≤ v5∧v5 < 64)∧I64 ((1:Int) * 2 ^ v5.toNat) then
  if (1:Int) ≤ ((1:Int) * 2 ^ v5.toNat)∧I64 (Int.tdiv x3.x ((1:Int) * 2 ^ v5.toNat)) then
  if (0 ≤ v5∧v5 < 64)∧I64 ((1:Int) * 2 ^ v5.toNat) then
  if (1:Int) ≤ ((1:Int) * 2 ^ v5.toNat)∧I64 (Int.tdiv x3.y ((1:Int) * 2 ^ v5.toNat)) then
  if (⟨(Int.tdiv x3.x ((1:Int) * 2 ^ v5.toNat)),(Int.tdiv x3.y ((1:Int) * 2 ^ v5.toNat))⟩:Vec) = (⟨0,0⟩:Vec) then
  some (St.done (Ex.up (5,a0_m)))
  else
  none
  else none
  else none
  else none
  else none
  else
  some (St.done (Ex.go ()))) 0) fun x=>x.then fun _ =>
  none
def mover_idle (a0_m:Mvr) (a1_u:Unt):Option Mvr :=
  Option.bind (kind_What a1_u.kind) fun x2 =>
  if I64 (x2.radius + 16384) then
  Option.bind (army_Near a0_m.s a1_u.pos (x2.radius + 16384)) fun x7 =>
  Option.bind (α:=Unit) (loop (σ:=Int) (β:=Unit) (fun v13 =>
  if v13 < (x7.length:Int) then
  if 0 ≤ v13∧v13 < (x7.length:Int) then
  if ¬ (gi x7 v13).id = a1_u.id then
  none
  else
  if I64 (v13 + 1) then
  some (St.next (v13 + 1))
  else none
  else none
  else
  some (St.done ())) 0) fun _ =>
  if (1:Int) ≤ 4∧I64 (Int.tdiv x2.speed 4) then
  Option.bind (vec_Clamp (⟨0,0⟩:Vec) (Int.tdiv x2.speed 4)) fun x11 =>
  Option.bind (mover_try a0_m a1_u x11) fun x12 =>
  some x12.2
  else none
  else none
def mover_unit (a0_m:Mvr) (a1_u:Unt):Option Mvr :=
  if a1_u.goal = (-1) then
  Option.bind (mover_idle a0_m a1_u) fun x3 =>
  some x3
  else
  none
end Go.Proofs.YtmngdgclldkcfaaGreat
set_option linter.unusedVariables false
set_option linter.unusedSimpArgs false
set_option maxRecDepth 20000
set_option maxHeartbeats 4000000
namespace Go.Proofs.YtmngdgclldkcfaaGreat
open Go.Vg
open Enc (R)
end Go.Proofs.YtmngdgclldkcfaaGreat
set_option linter.unusedVariables false
set_option linter.unusedSimpArgs false
set_option maxRecDepth 20000
set_option maxHeartbeats 4000000
namespace Go.Proofs.YtmngdgclldkcfaaGreat
open Go.Vg
open Enc (R)
def apply_work_spawn (ac:Cmd) (a0_w:Wrk):Option (Int × Wrk) :=
  if ((a0_w.s.w.us.length:Int) = 4096) ∨ (a0_w.s.w.nextid = 1099511627776) then
  none
  else
  Option.bind (army_Place a0_w.s 0 ac.n ac.pos) fun x12 =>
  if (!x12.1) = true then
  some (5,(⟨x12.2,a0_w.f⟩:Wrk))
  else
  Option.bind (apply_rest (⟨x12.2.w.nextid,ac.player,ac.n,ac.pos,0,0,0,0,0⟩:Unt)) fun x21 =>
  if x12.2.w.us.length < 1099511627776 then
  if I64 (x12.2.w.nextid + 1) then
  some (0,(⟨(⟨(⟨x12.2.w.tick,x12.2.w.players,(x12.2.w.nextid + 1),x12.2.w.g,x12.2.w.bs,(x12.2.w.us ++ [x21])⟩:Wld),x12.2.op,x12.2.cs⟩:Std),a0_w.f⟩:Wrk))
  else none
  else none
def work_does (ac:Cmd) (a0_w:Wrk):Option (Int × Wrk) :=
  if ac.kind = 1 then
  Option.bind (apply_work_spawn ac a0_w) fun x3 =>
  some (x3.1,x3.2)
  else
  none
end Go.Proofs.YtmngdgclldkcfaaGreat
set_option linter.unusedVariables false
set_option linter.unusedSimpArgs false
set_option maxRecDepth 20000
set_option maxHeartbeats 4000000
namespace Go.Proofs.YtmngdgclldkcfaaGreat
open Go.Vg
open Enc (R)
theorem ent126:Ent Tryz.prog 126:=en Tryz.func126
theorem ent186:Ent Tryz.prog 186:=en Tryz.func186
theorem ent72:Ent Tryz.prog 72:=en Tryz.func72
instance fd159_0:FdC Tryz.prog 159 0 0:={}
instance fd159_1:FdC Tryz.prog 159 1 1:={}
theorem st54:stTy Tryz.prog 54 = some ([.int .i64 0,.int .i64 0,.int .i64 0,.int .i64 0,.int .i64 0,.int .i64 0,.int .i64 0,.int .i64 0,.int .i64 0,.int .i64 0],[(0,1),(1,1),(2,1),(3,2),(5,1),(6,1),(7,1),(8,1),(9,1)]):=by kernel_rfl
instance ty150:TyC Tryz.prog 150 (1,false):={}
theorem apply_work_spawn_walk {w0:World} {F:Ch} (g0:Nat) (gf:Nat) (vc:Value) (ac:Cmd) (a0_w:Wrk) (hv:Rd (Sat w0 [F]) ac.units [vc]) {r:Int × Wrk} (H:apply_work_spawn ac a0_w = some r) (w:World) (s:Sat w0 [Wrk_ch g0 gf vc ac a0_w,F] w):Calls Tryz.prog 126 #[.pointer (some ⟨g0,0,none⟩)] w fun e w'=>e = .returned (.int .i64 r.1)∧Sat w0 [Wrk_ch g0 gf vc ac r.2,F] w':=by
 have hmv:=R_max (hv w (s.pc [1]))
 obtain ⟨pv,cv,rfl⟩:=R_form (hv w (s.pc [1]))
 unfold apply_work_spawn at H
 refine te Tryz.func126 s ?_
 refine au 2 ?_
 refine T.seq fun _ k2=>T.block (T.seq fun _ k3=>T.region (au 2 ?_))
 refine RS.ex (fun w s=>Wrk_open 0 rfl s) ?_
 rintro gs1
 refine au 3 ?_
 refine RS.ex (fun w s=>Std_open 2 rfl s) ?_
 rintro ⟨qt2,qb3,qu4,va5,vb6,vc7,gc8⟩
 refine au 6 ?_
 refine RS.joinV 10 24 (.bool (decide (((a0_w.s.w.us.length:Int) = 4096) ∨ (a0_w.s.w.nextid = 1099511627776)))) [(0,_)] sb ?_ ?_
 ·refine rA rfl (RS.nil (k3 _ _ ?_))
  refine T.cP H rfl (fun _ H=>nomatch H) (fun hc11 H=>?_)
  refine T.seq fun _ k5=>?_
  refine T.wk (fun w s=>((Sat.sP [0,1,3] [2,4,5,6,7,8] s (Std_shut (x:=a0_w.s) ⟨qt2,qb3,qu4,va5,vb6,vc7,gc8⟩))).pickP [1,2,0,3]) ?_
  refine dr mixed [0,0,0,1,0,0,0,0,1,0,0,0,0,1,4,0,0] ?_
  refine au 14 ?_
  obtain ⟨x12,hx12,H⟩:=bindE H
  refine RD.solid rfl (.inr rfl) rfl rfl (Sd.callF0 2 ent72 rfl rfl (fun w s=>army_Place_walk gs1 a0_w.s 0 ac.n ac.pos  hx12 w s)) (fun _=>ClE.sat _ _) (fun _ _ _=>trivial) (fun h=>nomatch h) fun _=>?_
  refine au 2 ?_
  refine RD.nil (k5 _ _ ?_)
  refine T.cB H rfl (fun hc13 H=>?_) (fun hc13 H=>?_)
  ·refine kq [] ?_
   refine au 2 ?_
   refine T.wk (fun w s=>(Sat.sP [1] [0,2,3] s (Wrk_shut (x:=(⟨x12.2,a0_w.f⟩:Wrk)) gs1))) ?_
   obtain rfl:=sj H
   refine T.rt (Cont.ret1 rfl rfl fun w' s=>?_)
   exact ⟨rfl,s.pc [0,1]⟩
  refine T.skip (k2 _ _ (kq [0] ?_))
  refine T.seq fun _ k7=>?_
  refine T.ex (fun w s=>Std_open 2 rfl s) ?_
  rintro ⟨qt14,qb15,qu16,va17,vb18,vc19,gc20⟩
  refine nz ?_
  refine drS mixed [0,1,3,4,5,7,8] [0,0,0,2,0,0,0,1,0,0,0,1,0,0,0,1,0,0,0,1,0,0,0,0,1,0,0,0,0,1,0,0,0,0,1,0,1,3,4,0,0,0,4] ?_
  refine au 35 ?_
  refine RD.p (fun w s=>s.pc [0,1,3,4,5,7,8]) rfl (Pu.build (cells:=[_,_,_,_,_,_,_,_,_,_]) st54 rfl rfl) rfl rfl ?_
  obtain ⟨x21,hx21,H⟩:=bindE H
  refine RD.q (fun w s=>s.pc [0,1,3,4,5,7,8]) rfl (Qt.call (vs:=[_]) ent186 rfl fun w s=>apply_rest_walk (⟨x12.2.w.nextid,ac.player,ac.n,ac.pos,0,0,0,0,0⟩:Unt) w  hx21) rfl rfl (RD.solid rfl (.inl rfl) rfl rfl (Sd.litS (cs:=[_,_,_,_,_,_,_,_,_,_]) sl50.h zr54 rfl rfl rfl rfl rfl) (fun _=>ClE.sat _ _) (fun _ w s=>s.pc [0,1,3,4,5,7,8]) (fun _ _ _ s=>s.drop1) fun b22=>?_)
  obtain ⟨g24,H⟩:=gdE H
  refine RD.solid rfl (.inr rfl) rfl rfl (Sd.app1c (α:=Unt) 6 9 x21 rfl rfl (nilH_lt _) sl50.h zr54 rfl rfl rfl rfl g24 (by decide)) (fun _=>ClE.sat _ _) (fun _ w s=>s.pc [0,1,3,4,5,7,8]) (fun h=>nomatch h) fun q23=>?_
  refine au 4 ?_
  refine RD.nil (k7 _ _ (kq [0] ?_))
  refine T.seq fun _ k8=>nz ?_
  refine T.region (au 8 ?_)
  obtain ⟨g25,H⟩:=gdE H
  refine rp (Pu.addS rfl rfl g25) (au 4 ?_)
  refine RS.nil (k8 _ _ (kq [] ?_))
  refine au 2 ?_
  refine T.wk (fun w s=>((Sat.sP [0,1,3,9] [2,4,5,6,7,8] s (Std_shut (x:=(⟨(⟨x12.2.w.tick,x12.2.w.players,(x12.2.w.nextid + 1),x12.2.w.g,x12.2.w.bs,(x12.2.w.us ++ [x21])⟩:Wld),x12.2.op,x12.2.cs⟩:Std)) ⟨qt14,qb15,q23,va17,vb18,vc19,gc20⟩))).pickP [1,2,0,3,4]) ?_
  refine T.wk (fun w s=>(Sat.sP [1,4] [0,2,3] s (Wrk_shut (x:=(⟨(⟨(⟨x12.2.w.tick,x12.2.w.players,(x12.2.w.nextid + 1),x12.2.w.g,x12.2.w.bs,(x12.2.w.us ++ [x21])⟩:Wld),x12.2.op,x12.2.cs⟩:Std),a0_w.f⟩:Wrk)) gs1))) ?_
  obtain rfl:=sj H
  refine T.rt (Cont.ret1 rfl rfl fun w' s=>?_)
  exact ⟨rfl,s.pc [0,1]⟩
 intro hJ10
 refine RS.splitP 14 rfl (fun hc9=>?_) (fun hc9=>?_)
 ·refine au 10 ?_
  exact hJ10 _ _ ⟨dOrT hc9,rfl,trivial⟩ (fun w s=>s)
 refine au 10 ?_
 exact hJ10 _ _ ⟨dOrF hc9,rfl,trivial⟩ (fun w s=>s)
theorem work_does_walk {w0:World} {F:Ch} (g0:Nat) (gf:Nat) (vc:Value) (ac:Cmd) (a0_w:Wrk) (hv:Rd (Sat w0 [F]) ac.units [vc]) {r:Int × Wrk} (H:work_does ac a0_w = some r) (w:World) (s:Sat w0 [Wrk_ch g0 gf vc ac a0_w,F] w):Calls Tryz.prog 77 #[.pointer (some ⟨g0,0,none⟩)] w fun e w'=>e = .returned (.int .i64 r.1)∧Sat w0 [Wrk_ch g0 gf vc ac r.2,F] w':=by
 have hmv:=R_max (hv w (s.pc [1]))
 obtain ⟨pv,cv,rfl⟩:=R_form (hv w (s.pc [1]))
 unfold work_does at H
 refine te Tryz.func77 s ?_
 refine au 2 ?_
 refine T.seq fun _ k2=>T.seq fun _ k3=>T.region (au 2 ?_)
 refine RS.ex (fun w s=>Wrk_open 0 rfl s) ?_
 rintro gs1
 refine au 3 ?_
 refine RS.nil (k3 _ _ (kq [0,7] ?_))
 refine T.block (au 3 ?_)
 refine T.cP H rfl (fun hc2 H=>?_) (fun hc2 H=>?_)
 ·refine kq [0] ?_
  refine T.seq fun _ k5=>T.region (rM rfl ?_)
  refine RS.wk (fun w s=>(Sat.sP [1] [0,2,3] s (Wrk_shut (x:=a0_w) gs1))) ?_
  obtain ⟨x3,hx3,H⟩:=bindE H
  refine RS.solid (Sd.callF0 0 ent126 rfl rfl (fun w s=>apply_work_spawn_walk g0 gf (.slice pv ac.units.length cv) ac a0_w (Rd.rest 1 rfl (by decide) hv) hx3 w s)) rfl rfl fun _=>rA rfl (RS.nil (k5 _ _ (kq [2] ?_)))
  obtain rfl:=sj H
  refine T.rt (Cont.ret1 rfl rfl fun w' s=>?_)
  exact ⟨rfl,s.pc [0,1]⟩
 refine T.seq fun _ k6=>?_
 exact nomatch H
end Go.Proofs.YtmngdgclldkcfaaGreat
set_option linter.unusedVariables false
set_option linter.unusedSimpArgs false
set_option maxRecDepth 20000
set_option maxHeartbeats 4000000
namespace Go.Proofs.YtmngdgclldkcfaaGreat
open Go.Vg
open Enc (R)
theorem ent137:Ent Tryz.prog 137:=en Tryz.func137
theorem ent209:Ent Tryz.prog 209:=en Tryz.func209
theorem ent210:Ent Tryz.prog 210:=en Tryz.func210
instance fd185_0:FdC Tryz.prog 185 0 0:={}
instance fd73_1:FdC Tryz.prog 73 1 1:={}
theorem mover_try_walk {w0:World} {F:Ch} (g0:Nat) (gf:Nat) (a0_m:Mvr) (a1_u:Unt) (a2_v:Vec) {r:Int × Mvr} (H:mover_try a0_m a1_u a2_v = some r) (w:World) (s:Sat w0 [Mvr_ch g0 gf a0_m,F] w):Calls Tryz.prog 209 #[.pointer (some ⟨g0,0,none⟩),.agg #[.int .i64 a1_u.id,.int .i64 a1_u.owner,.int .i64 a1_u.kind,.int .i64 a1_u.pos.x,.int .i64 a1_u.pos.y,.int .i64 a1_u.goal,.int .i64 a1_u.next,.int .i64 a1_u.stuck,.int .i64 a1_u.inn,.int .i64 a1_u.state],.agg #[.int .i64 a2_v.x,.int .i64 a2_v.y]] w fun e w'=>e = .returned (.int .i64 r.1)∧Sat w0 [Mvr_ch g0 gf r.2,F] w':=by
 unfold mover_try at H
 refine te Tryz.func209 s ?_
 refine T.seq fun _ k1=>T.region (RS.solid (Sd.box (cs:=[_,_,_,_,_,_,_,_,_,_]) rfl rfl) rfl rfl fun b1=>RS.solid (Sd.box (cs:=[_,_]) rfl rfl) rfl rfl fun b2=>rA rfl (RS.nil (k1 _ _ (kq [0,4,5] ?_))))
 refine T.seq fun _ k2=>T.region (rq (Qt.ldBA (us:=[_,_]) 3 ty33.h rfl rfl rfl rfl) ?_)
 obtain ⟨x3,hx3,H⟩:=bindE H
 refine rq (Qt.call (vs:=[_]) ent267 rfl fun w s=>vec_Norm_walk a2_v w  hx3) (RS.solid (Sd.stB (cs':=[_,_]) 3 ty33.h rfl rfl rfl rfl rfl rfl rfl rfl) rfl rfl fun _=>RS.nil (k2 _ _ ?_))
 refine T.seq fun _ k3=>au 2 ?_
 refine T.joinE (σ:=Unit) (γ:=Unit) H Ex.go [] trivial (fun _ _=>[]) (fun _ _=>Sat w0 [Mvr_ch g0 gf a0_m,F,blk b1 [.int .i64 a1_u.id,.int .i64 a1_u.owner,.int .i64 a1_u.kind,.int .i64 a1_u.pos.x,.int .i64 a1_u.pos.y,.int .i64 a1_u.goal,.int .i64 a1_u.next,.int .i64 a1_u.stuck,.int .i64 a1_u.inn,.int .i64 a1_u.state] 54,blk b2 [.int .i64 x3.x,.int .i64 x3.y] 33]) ?_ ?_
 ·rintro ⟨⟩ ⟨⟩ H
  try dsimp only [Ex.then] at H
  refine Cont.kq [] ?_
  refine id (k3 _ _ ?_)
  refine T.seq fun _ k5=>?_
  exact nomatch H
 intro z4 hz4 HX4 hJ4
 refine T.block ?_
 refine T.loopA (γ:=Unit) hz4 [(0,_),(4,_),(5,_)] (fun v5 _=>[(12,.int .i64 v5)]) (fun v5 _=>Sat w0 [Mvr_ch g0 gf a0_m,F,blk b1 [.int .i64 a1_u.id,.int .i64 a1_u.owner,.int .i64 a1_u.kind,.int .i64 a1_u.pos.x,.int .i64 a1_u.pos.y,.int .i64 a1_u.goal,.int .i64 a1_u.next,.int .i64 a1_u.stuck,.int .i64 a1_u.inn,.int .i64 a1_u.state] 54,blk b2 [.int .i64 x3.x,.int .i64 x3.y] 33]) () sb sb (fun w s=>s) ?_
 rintro v5 ⟨⟩ y6 H hd4 KL4 hL4
 try dsimp only [Ex.then] at H
 refine kq [12,0,4,5] ?_
 refine au 2 ?_
 refine T.seq fun _ k7=>?_
 refine T.cP H rfl (fun hc7 H=>?_) (fun hc7 H=>?_)
 ·refine T.skip (k7 _ _ ?_)
  refine T.seq fun _ k8=>T.block (au 3 ?_)
  refine T.seq fun _ k10=>dr mixed [0,1,0,0,0,0,1,0,0,0,0,3,4] ?_
  refine au 3 ?_
  obtain ⟨g8,H⟩:=gdE H
  refine dp rfl (Pu.shlV rfl rfl g8) ?_
  obtain ⟨g9,H⟩:=gdE H
  refine dp rfl (Pu.quoT rfl rfl g9) (au 3 ?_)
  obtain ⟨g10,H⟩:=gdE H
  refine dp rfl (Pu.shlV rfl rfl g10) ?_
  obtain ⟨g11,H⟩:=gdE H
  refine dp rfl (Pu.quoT rfl rfl g11) (dp rfl (Pu.build (cells:=[_,_]) st33 rfl rfl) (RD.solid rfl (.inl rfl) rfl rfl (Sd.alloc zr33 rfl) (fun _=>ClE.sat _ _) (fun _ _ _=>trivial) (fun _ _ _ s=>s.drop1) fun b12=>?_))
  refine RD.solid rfl (.inr rfl) rfl rfl (Sd.stB (cs':=[_,_]) 4 ty33.h rfl rfl rfl rfl rfl rfl rfl rfl) (fun _=>ClE.sat _ _) (fun _ _ _=>trivial) (fun h=>nomatch h) fun _=>?_
  refine RD.nil (k10 _ _ (kq [0,4,5,7,8,12] ?_))
  refine T.seq fun _ k11=>T.seq fun _ k12=>T.region (rq (Qt.ldBA (us:=[_,_]) 4 ty33.h rfl rfl rfl rfl) (rp (Pu.build (cells:=[_,_]) st33 rfl rfl) (rp (Pu.eqSt eqt33 rfl rfl rfl (eq_Vec (⟨(Int.tdiv x3.x ((1:Int) * 2 ^ v5.toNat)),(Int.tdiv x3.y ((1:Int) * 2 ^ v5.toNat))⟩:Vec) (⟨0,0⟩:Vec))) (RS.nil (k12 _ _ ?_)))))
  refine T.cP H rfl (fun hc13 H=>?_) (fun hc13 H=>?_)
  ·refine kq [] ?_
   refine au 2 ?_
   obtain rfl:=hd4 _ H
   have H:=HX4
   obtain rfl:=sj H
   refine T.rt (Cont.ret1 rfl rfl fun w' s=>?_)
   exact ⟨rfl,s.pc [0,1]⟩
  refine T.skip (k11 _ _ (kq [0,4,5,7,8,12] ?_))
  refine T.seq fun _ k14=>?_
  exact nomatch H
 refine T.xt ?_
 obtain rfl:=hd4 _ H
 refine id (hJ4 _ _ () () HX4 trivial trivial (fun w s=>s))
theorem mover_idle_walk {w0:World} {F:Ch} (g0:Nat) (gf:Nat) (a0_m:Mvr) (a1_u:Unt) {r:Mvr} (H:mover_idle a0_m a1_u = some r) (w:World) (s:Sat w0 [Mvr_ch g0 gf a0_m,F] w):Calls Tryz.prog 137 #[.pointer (some ⟨g0,0,none⟩),.agg #[.int .i64 a1_u.id,.int .i64 a1_u.owner,.int .i64 a1_u.kind,.int .i64 a1_u.pos.x,.int .i64 a1_u.pos.y,.int .i64 a1_u.goal,.int .i64 a1_u.next,.int .i64 a1_u.stuck,.int .i64 a1_u.inn,.int .i64 a1_u.state]] w fun e w'=>e = .returned (.tuple #[])∧Sat w0 [Mvr_ch g0 gf r,F] w':=by
 unfold mover_idle at H
 refine te Tryz.func137 s ?_
 refine T.seq fun _ k1=>T.region (RS.solid (Sd.box (cs:=[_,_,_,_,_,_,_,_,_,_]) rfl rfl) rfl rfl fun b1=>RS.nil (k1 _ _ ?_))
 refine T.seq fun _ k2=>T.region (au 2 ?_)
 obtain ⟨x2,hx2,H⟩:=bindE H
 refine rq (Qt.call (vs:=[_]) ent118 rfl fun w s=>kind_What_walk a1_u.kind w  hx2) (RS.solid (Sd.alloc zr73 rfl) rfl rfl fun b3=>RS.solid (Sd.stB (cs':=[_,_,_,_,_]) 3 ty73.h rfl rfl rfl rfl rfl rfl rfl rfl) rfl rfl fun _=>RS.nil (k2 _ _ (kq [0,3,4] ?_)))
 refine T.seq fun _ k3=>T.region (RS.solid (Sd.alloc zr33 rfl) rfl rfl fun b4=>RS.nil (k3 _ _ ?_))
 refine T.seq fun _ k4=>T.seq fun _ k5=>?_
 refine T.ex (fun w s=>Mvr_open 0 rfl s) ?_
 rintro gs5
 refine nz ?_
 refine T.drawn (fun _=>True) [(0,.pu),(1,.pu),(2,.pu),(3,.rd),(4,.pu),(5,.rd),(6,.pu),(7,.rd),(8,.pu),(11,.pu),(9,.so),(10,.pu)] mixed (ClE.sat _ _) (by kernel_rfl) ?_
 refine au 8 ?_
 obtain ⟨g6,H⟩:=gdE H
 refine dp rfl (Pu.addS rfl rfl g6) (dp rfl (Pu.move rfl) ?_)
 obtain ⟨x7,hx7,H⟩:=bindE H
 refine RD.solid rfl (.inl rfl) rfl rfl (Sd.callF 5 ent121 rfl rfl (fun w s=>army_Near_walk gs5 a0_m.s a1_u.pos (x2.radius + 16384)  hx7 w s)) (fun _=>ClE.sat _ _) (fun _ _ _=>trivial) (fun _ _ _ s=>s.pc [0,1,2,3,4,5,6]) fun q8=>?_
 refine dp rfl (Pu.lenSl sl50.h rfl) (RD.nil (k5 _ _ (kq [0,3,4,5,20,21,22] ?_)))
 refine T.wk (fun w s=>(Sat.sP [1,2,3,4,7] [0,5,6] s (Mvr_shut (x:=a0_m) gs5))) ?_
 refine T.joinE (σ:=Unit) (γ:=Unit) H (fun s=>s) [(0,_),(3,_),(4,_),(5,_)] sb (fun _ _=>[]) (fun _ _=>Sat w0 [Mvr_ch g0 gf a0_m,F,blk b1 [.int .i64 a1_u.id,.int .i64 a1_u.owner,.int .i64 a1_u.kind,.int .i64 a1_u.pos.x,.int .i64 a1_u.pos.y,.int .i64 a1_u.goal,.int .i64 a1_u.next,.int .i64 a1_u.stuck,.int .i64 a1_u.inn,.int .i64 a1_u.state] 54,blk b3 [.int .i64 x2.radius,.int .i64 x2.speed,.int .i64 x2.cls,.int .i64 x2.size,.int .i64 x2.room] 73,blk b4 [.int .i64 0,.int .i64 0] 33,row nilH 54 (rowV q8 x7.length) x7]) ?_ ?_
 ·rintro ⟨⟩ ⟨⟩ H
  try dsimp only [Ex.then] at H
  refine Cont.kq [0,3,4,5] ?_
  refine id (k4 _ _ ?_)
  refine nz ?_
  refine drS mixed [1,2,3,4,5] [0,1,2,0,2,0,1,4] ?_
  refine au 5 ?_
  obtain ⟨g10,H⟩:=gdE H
  refine RD.p (fun w s=>s.pc [1,2,3,4,5]) rfl (Pu.quoT rfl rfl g10) rfl rfl ?_
  obtain ⟨x11,hx11,H⟩:=bindE H
  refine RD.q (fun w s=>s.pc [1,2,3,4,5]) rfl (Qt.call (vs:=[_,_]) ent210 rfl fun w s=>vec_Clamp_walk (⟨0,0⟩:Vec) (Int.tdiv x2.speed 4) w  hx11) rfl rfl ?_
  obtain ⟨x12,hx12,H⟩:=bindE H
  refine RD.solid rfl (.inr rfl) rfl rfl (Sd.callF0 0 ent209 rfl rfl (fun w s=>mover_try_walk g0 gf a0_m a1_u x11  hx12 w s)) (fun _=>ClE.sat _ _) (fun _ w s=>s.pc [1,2,3,4,5]) (fun h=>nomatch h) fun _=>?_
  obtain rfl:=sj H
  refine RD.nil ?_
  repeat with_reducible refine Cont.inB ?_
  refine Cont.end0 rfl fun w' s=>?_
  exact ⟨rfl,s.pc [0,1]⟩
 intro z9 hz9 HX9 hJ9
 refine T.block ?_
 refine T.loopA (γ:=Unit) hz9 [(0,_),(3,_),(4,_),(5,_),(20,_),(21,_)] (fun v13 _=>[(22,.int .i64 v13)]) (fun v13 _=>Sat w0 [Mvr_ch g0 gf a0_m,F,blk b1 [.int .i64 a1_u.id,.int .i64 a1_u.owner,.int .i64 a1_u.kind,.int .i64 a1_u.pos.x,.int .i64 a1_u.pos.y,.int .i64 a1_u.goal,.int .i64 a1_u.next,.int .i64 a1_u.stuck,.int .i64 a1_u.inn,.int .i64 a1_u.state] 54,blk b3 [.int .i64 x2.radius,.int .i64 x2.speed,.int .i64 x2.cls,.int .i64 x2.size,.int .i64 x2.room] 73,blk b4 [.int .i64 0,.int .i64 0] 33,row nilH 54 (rowV q8 x7.length) x7]) () sb sb (fun w s=>s) ?_
 rintro v13 ⟨⟩ y14 H hd9 KL9 hL9
 try dsimp only [Ex.then] at H
 refine kq [22,0,3,4,5,20,21] ?_
 refine au 2 ?_
 refine T.seq fun _ k7=>?_
 refine T.cP H rfl (fun hc15 H=>?_) (fun hc15 H=>?_)
 ·refine T.skip (k7 _ _ ?_)
  refine T.seq fun _ k8=>T.block (T.seq fun _ k9=>T.region ?_)
  obtain ⟨g16,H⟩:=gdE H
  refine RS.know (p:=∃ g cap,q8 = (some g,cap)) (fun w s=>(s.row_some (k:=5) rfl (pos_of g16))) ?_
  rintro ⟨gg17,cc18,rfl⟩
  refine rp (Pu.indexSl sl50.h rfl rfl g16) (rq (Qt.ldW (α:=Unt) (cs:=[_,_,_,_,_,_,_,_,_,_]) (Rd.ofRowN 5 rfl) ty54.h rfl rfl g16 rfl (by rintro _ _ rfl; rfl)) (RS.solid (Sd.alloc zr54 rfl) rfl rfl fun b19=>RS.solid (Sd.stB (cs':=[_,_,_,_,_,_,_,_,_,_]) 6 ty54.h rfl rfl rfl rfl rfl rfl rfl rfl) rfl rfl fun _=>RS.nil (k9 _ _ (kq [0,3,4,5,7,20,21,22] ?_))))
  refine au 6 ?_
  refine T.cP H rfl (fun _ H=>nomatch H) (fun hc20 H=>?_)
  refine T.skip (k8 _ _ (kq [0,3,4,5,20,21,22] ?_))
  refine nz ?_
  refine T.region ?_
  obtain ⟨g21,H⟩:=gdE H
  refine rp (Pu.addS rfl rfl g21) (rM rfl (RS.nil ?_))
  refine id (hL9 _ _ (v13 + 1) () H sb sb (fun w s=>s.pc [0,1,2,3,4,5]))
 refine T.xt ?_
 obtain rfl:=hd9 _ H
 refine id (hJ9 _ _ () () HX9 sb trivial (fun w s=>s))
theorem mover_unit_walk {w0:World} {F:Ch} (g0:Nat) (gf:Nat) (a0_m:Mvr) (a1_u:Unt) {r:Mvr} (H:mover_unit a0_m a1_u = some r) (w:World) (s:Sat w0 [Mvr_ch g0 gf a0_m,F] w):Calls Tryz.prog 82 #[.pointer (some ⟨g0,0,none⟩),.agg #[.int .i64 a1_u.id,.int .i64 a1_u.owner,.int .i64 a1_u.kind,.int .i64 a1_u.pos.x,.int .i64 a1_u.pos.y,.int .i64 a1_u.goal,.int .i64 a1_u.next,.int .i64 a1_u.stuck,.int .i64 a1_u.inn,.int .i64 a1_u.state]] w fun e w'=>e = .returned (.tuple #[])∧Sat w0 [Mvr_ch g0 gf r,F] w':=by
 unfold mover_unit at H
 refine te Tryz.func82 s ?_
 refine T.seq fun _ k1=>T.region (RS.solid (Sd.box (cs:=[_,_,_,_,_,_,_,_,_,_]) rfl rfl) rfl rfl fun b1=>RS.nil (k1 _ _ ?_))
 refine au 4 ?_
 refine T.cP H rfl (fun hc2 H=>?_) (fun hc2 H=>?_)
 ·refine kq [0,3] ?_
  refine T.region (au 2 ?_)
  obtain ⟨x3,hx3,H⟩:=bindE H
  refine RS.solid (Sd.callF0 0 ent137 rfl rfl (fun w s=>mover_idle_walk g0 gf a0_m a1_u  hx3 w s)) rfl rfl fun _=>?_
  obtain rfl:=sj H
  refine RS.nil ?_
  repeat with_reducible refine Cont.inB ?_
  refine Cont.end0 rfl fun w' s=>?_
  exact ⟨rfl,s.pc [0,1]⟩
 refine kq [0,3] ?_
 exact nomatch H
end Go.Proofs.YtmngdgclldkcfaaGreat
