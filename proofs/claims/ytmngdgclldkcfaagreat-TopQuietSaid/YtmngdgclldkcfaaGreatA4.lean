/-
  Texts of one's own, joined: WG SEG ZV TI TG PG DR DD PO PG3 IG.
-/
import Derived.Test.YtmngdgclldkcfaaGreatRows
import Derived.Test.YtmngdgclldkcfaaGreatA2
import Derived.Test.YtmngdgclldkcfaaGreatA3
import Derived.Test.YtmngdgclldkcfaaGreatW3
import Derived.Test.YtmngdgclldkcfaaGreatW2
import Derived.Test.YtmngdgclldkcfaaGreatA1
set_option linter.unusedVariables false
set_option linter.unusedSimpArgs false
set_option maxRecDepth 20000
set_option maxHeartbeats 4000000
namespace Go.Proofs.YtmngdgclldkcfaaGreat
open Go.Vg
open Enc (R)
theorem ent111:Ent Tryz.prog 111:=⟨_,_,Tryz.func111,by kernel_rfl,rfl⟩
theorem ent113:Ent Tryz.prog 113:=⟨_,_,Tryz.func113,by kernel_rfl,rfl⟩
theorem ent114:Ent Tryz.prog 114:=⟨_,_,Tryz.func114,by kernel_rfl,rfl⟩
theorem ent124:Ent Tryz.prog 124:=⟨_,_,Tryz.func124,by kernel_rfl,rfl⟩
theorem ent125:Ent Tryz.prog 125:=⟨_,_,Tryz.func125,by kernel_rfl,rfl⟩
theorem ent153:Ent Tryz.prog 153:=⟨_,_,Tryz.func153,by kernel_rfl,rfl⟩
theorem ent185:Ent Tryz.prog 185:=⟨_,_,Tryz.func185,by kernel_rfl,rfl⟩
theorem ent31:Ent Tryz.prog 31:=⟨_,_,Tryz.func31,by kernel_rfl,rfl⟩
theorem ent75:Ent Tryz.prog 75:=⟨_,_,Tryz.func75,by kernel_rfl,rfl⟩
theorem fd37_0:fdOff Tryz.prog 37 0 = some 0:=by kernel_rfl
theorem fd37_1:fdOff Tryz.prog 37 1 = some 1:=by kernel_rfl
theorem fd37_2:fdOff Tryz.prog 37 2 = some 2:=by kernel_rfl
theorem fd37_3:fdOff Tryz.prog 37 3 = some 3:=by kernel_rfl
theorem fd37_4:fdOff Tryz.prog 37 4 = some 4:=by kernel_rfl
theorem fd37_5:fdOff Tryz.prog 37 5 = some 5:=by kernel_rfl
theorem fd37_6:fdOff Tryz.prog 37 6 = some 6:=by kernel_rfl
theorem fd37_7:fdOff Tryz.prog 37 7 = some 7:=by kernel_rfl
theorem fd37_8:fdOff Tryz.prog 37 8 = some 8:=by kernel_rfl
theorem fd52_0:fdOff Tryz.prog 52 0 = some 0:=by kernel_rfl
theorem fd52_1:fdOff Tryz.prog 52 1 = some 1:=by kernel_rfl
theorem fd52_2:fdOff Tryz.prog 52 2 = some 2:=by kernel_rfl
theorem fd52_3:fdOff Tryz.prog 52 3 = some 3:=by kernel_rfl
theorem fd52_4:fdOff Tryz.prog 52 4 = some 6:=by kernel_rfl
theorem fd52_5:fdOff Tryz.prog 52 5 = some 7:=by kernel_rfl
theorem fd54_0:fdOff Tryz.prog 54 0 = some 0:=by kernel_rfl
theorem fd54_1:fdOff Tryz.prog 54 1 = some 1:=by kernel_rfl
theorem fd54_2:fdOff Tryz.prog 54 2 = some 2:=by kernel_rfl
theorem fd54_7:fdOff Tryz.prog 54 7 = some 8:=by kernel_rfl
theorem sl29:slTy Tryz.prog 29 = some (37,10,96):=by kernel_rfl
theorem st37:stTy Tryz.prog 37 = some ([.int .i64 0,.int .i64 0,.int .i64 0,.int .i64 0,.slice none 0 0,.int .i64 0,.int .i64 0,.int .i64 0,.int .i64 0,.int .i64 0],[(0,1),(1,1),(2,1),(3,1),(4,1),(5,1),(6,1),(7,1),(8,2)]):=by kernel_rfl
theorem st52:stTy Tryz.prog 52 = some ([.int .i64 0,.int .i64 0,.int .i64 0,.int .i64 0,.int .i64 0,.slice none 0 0,.slice none 0 0,.slice none 0 0],[(0,1),(1,1),(2,1),(3,3),(6,1),(7,1)]):=by kernel_rfl
theorem ty37:tySz Tryz.prog 37 = some (10,true):=by kernel_rfl
theorem ty50:tySz Tryz.prog 50 = some (1,false):=by kernel_rfl
theorem ty52:tySz Tryz.prog 52 = some (8,true):=by kernel_rfl
theorem zr37:zeroOf Tryz.prog 37 = some (.agg #[.int .i64 0,.int .i64 0,.int .i64 0,.int .i64 0,.slice none 0 0,.int .i64 0,.int .i64 0,.int .i64 0,.int .i64 0,.int .i64 0]):=by kernel_rfl
theorem zr52:zeroOf Tryz.prog 52 = some (.agg #[.int .i64 0,.int .i64 0,.int .i64 0,.int .i64 0,.int .i64 0,.slice none 0 0,.slice none 0 0,.slice none 0 0]):=by kernel_rfl
def army_Own (a0_w:Wld):Option Wld :=
  Option.bind (ground_Own a0_w.g) fun x3 =>
  Option.bind (slices_Clone_Bld a0_w.bs) fun x5 =>
  Option.bind (slices_Clone_Unt a0_w.us) fun x7 =>
  some (⟨a0_w.tick,a0_w.players,a0_w.nextid,x3,x5,x7⟩:Wld)
def army_form0_1 (a0_b:Bld) (cv0:Wld):Option Bool :=
  some (decide ((cv0.players < a0_b.owner) ∨ (cv0.nextid ≤ a0_b.id)))
def army_form0 (a0_w:Wld):Option Bool :=
  if (((((a0_w.tick < 0) ∨ (1099511627776 < a0_w.tick)) ∨ (a0_w.players < 1)) ∨ (8 < a0_w.players)) ∨ (a0_w.nextid < 1)) ∨ (1099511627776 < a0_w.nextid) then
  some false
  else
  Option.bind (ground_May a0_w.g) fun x13 =>
  Option.bind (if (!x13) = true then
  some true
  else
  Option.bind (build_May a0_w.g a0_w.bs) fun x22 =>
  some (!x22)) fun b16 =>
  if (b16 = true) ∨ (4096 < (a0_w.us.length:Int)) then
  some false
  else
  Option.bind (slices_ContainsFuncB a0_w.bs (fun y0=>army_form0_1 y0 a0_w)) fun x20 =>
  some (!x20)
def world_New (a0_g:Grd) (a1_players:Int):Option (Wld × Int) :=
  Option.bind (ground_May a0_g) fun x3 =>
  if (((!x3) = true) ∨ (a1_players < 1)) ∨ (8 < a1_players) then
  some ((⟨0,0,0,(⟨0,0,[]⟩:Grd),[],[]⟩:Wld),1)
  else
  Option.bind (ground_Own a0_g) fun x9 =>
  some ((⟨0,a1_players,1,x9,[],[]⟩:Wld),0)
def command_only (a0_c:Cmd):Option (Cmd × Bool) :=
  if a0_c.kind = 1 then
  Option.bind (kind_May a0_c.n) fun x4 =>
  Option.bind (if x4 = true then
  Option.bind (disc_Place a0_c.pos) fun x9 =>
  some x9
  else
  some false) fun b7 =>
  some ((⟨a0_c.player,a0_c.seq,a0_c.kind,a0_c.n,[],0,0,0,a0_c.pos⟩:Cmd),b7)
  else
  if a0_c.kind = 2 then
  Option.bind (command_units a0_c.units) fun x11 =>
  Option.bind (if x11 = true then
  Option.bind (command_within a0_c.tile 0 16383) fun x16 =>
  some x16
  else
  some false) fun b14 =>
  some ((⟨a0_c.player,a0_c.seq,a0_c.kind,0,a0_c.units,a0_c.tile,0,0,(⟨0,0⟩:Vec)⟩:Cmd),b14)
  else
  if a0_c.kind = 3 then
  Option.bind (command_units a0_c.units) fun x18 =>
  some ((⟨a0_c.player,a0_c.seq,a0_c.kind,0,a0_c.units,0,0,0,(⟨0,0⟩:Vec)⟩:Cmd),x18)
  else
  if a0_c.kind = 4 then
  Option.bind (command_within a0_c.tile 0 16383) fun x20 =>
  Option.bind (if x20 = true then
  Option.bind (command_within a0_c.w 1 4) fun x30 =>
  some x30
  else
  some false) fun b23 =>
  Option.bind (if b23 = true then
  Option.bind (command_within a0_c.h 1 4) fun x28 =>
  some x28
  else
  some false) fun b26 =>
  some ((⟨a0_c.player,a0_c.seq,a0_c.kind,0,[],a0_c.tile,a0_c.w,a0_c.h,(⟨0,0⟩:Vec)⟩:Cmd),b26)
  else
  if a0_c.kind = 5 then
  Option.bind (command_within a0_c.n 1 1099511627776) fun x32 =>
  some ((⟨a0_c.player,a0_c.seq,a0_c.kind,a0_c.n,[],0,0,0,(⟨0,0⟩:Vec)⟩:Cmd),x32)
  else
  if a0_c.kind = 6 then
  Option.bind (command_units a0_c.units) fun x34 =>
  Option.bind (if x34 = true then
  Option.bind (command_within a0_c.n 1 1099511627776) fun x39 =>
  some x39
  else
  some false) fun b37 =>
  some ((⟨a0_c.player,a0_c.seq,a0_c.kind,a0_c.n,a0_c.units,0,0,0,(⟨0,0⟩:Vec)⟩:Cmd),b37)
  else
  if a0_c.kind = 7 then
  Option.bind (command_within a0_c.n 1 1099511627776) fun x41 =>
  Option.bind (if x41 = true then
  Option.bind (command_within a0_c.tile 0 16383) fun x46 =>
  some x46
  else
  some false) fun b44 =>
  some ((⟨a0_c.player,a0_c.seq,a0_c.kind,a0_c.n,[],a0_c.tile,0,0,(⟨0,0⟩:Vec)⟩:Cmd),b44)
  else
  some ((⟨a0_c.player,a0_c.seq,a0_c.kind,0,[],0,0,0,(⟨0,0⟩:Vec)⟩:Cmd),false)
def command_May (a0_c:Cmd):Option Bool :=
  Option.bind (command_only a0_c) fun x2 =>
  Option.bind (if x2.2 = true then
  Option.bind (command_within a0_c.player 1 8) fun x29 =>
  some x29
  else
  some false) fun b10 =>
  Option.bind (if b10 = true then
  Option.bind (command_within a0_c.seq 0 1099511627776) fun x27 =>
  some x27
  else
  some false) fun b13 =>
  some (decide (((((((b13 = true)∧(x2.1.n = a0_c.n))∧(x2.1.pos = a0_c.pos))∧(x2.1.tile = a0_c.tile))∧(x2.1.w = a0_c.w))∧(x2.1.h = a0_c.h))∧((x2.1.units.length:Int) = (a0_c.units.length:Int))))
def command_Own (a0_c:Cmd):Option Cmd :=
  Option.bind (slices_Clone_Int a0_c.units) fun x3 =>
  some (⟨a0_c.player,a0_c.seq,a0_c.kind,a0_c.n,x3,a0_c.tile,a0_c.w,a0_c.h,a0_c.pos⟩:Cmd)
def command_OwnAll (a0_l:List Cmd):Option (List Cmd) :=
  Option.bind (α:=List Cmd) (loop (σ:=List Cmd × Int) (β:=List Cmd) (fun (l4,v6) =>
  if v6 < (a0_l.length:Int) then
  if 0 ≤ v6∧v6 < (a0_l.length:Int) then
  Option.bind (command_Own (gi a0_l v6)) fun x19 =>
  if l4.length + 1 < 1099511627776 then
  if I64 (v6 + 1) then
  some (St.next ((l4 ++ ([x19]:List Cmd)),(v6 + 1)))
  else none
  else none
  else none
  else
  some (St.done l4)) ([],0)) fun v2 =>
  some v2
end Go.Proofs.YtmngdgclldkcfaaGreat
set_option linter.unusedVariables false
set_option linter.unusedSimpArgs false
set_option maxRecDepth 20000
set_option maxHeartbeats 4000000
namespace Go.Proofs.YtmngdgclldkcfaaGreat
open Go.Vg
open Enc (R)
def army_riders (a0_w:Wld):Option Bool :=
  Option.bind (α:=Ex (Unit) (Bool)) (loop (σ:=Int) (β:=Ex (Unit) (Bool)) (fun v4 =>
  if v4 < (a0_w.us.length:Int) then
  none
  else
  some (St.done (Ex.go ()))) 0) fun x=>x.then fun _ =>
  some true
def army_May (a0_w:Wld):Option Bool :=
  Option.bind (army_form0 a0_w) fun x2 =>
  if (!x2) = true then
  some false
  else
  Option.bind (α:=Unit) (loop (σ:=Int) (β:=Unit) (fun v17 =>
  if v17 < (a0_w.bs.length:Int) then
  none
  else
  some (St.done ())) 0) fun _ =>
  Option.bind (α:=Ex (Unit) (Bool)) (loop (σ:=Int) (β:=Ex (Unit) (Bool)) (fun v14 =>
  if v14 < (a0_w.us.length:Int) then
  none
  else
  some (St.done (Ex.go ()))) 0) fun x=>x.then fun _ =>
  if a0_w.us.length = 0 then
  Option.bind (α:=Ex (Unit) (Bool)) (loop (σ:=Int) (β:=Ex (Unit) (Bool)) (fun v11 =>
  if v11 < (a0_w.us.length:Int) then
  none
  else
  some (St.done (Ex.go ()))) 0) fun x=>x.then fun _ =>
  Option.bind (army_riders a0_w) fun x10 =>
  some x10
  else none
def eng_Open (a0_w:Wld) (a1_room:Int):Option (Option Wld × Int) :=
  Option.bind (fields_New a1_room) fun (o3,o4) =>
  Option.bind (if ¬ o4 = 0 then
  some true
  else
  Option.bind (army_May a0_w) fun x17 =>
  some (!x17)) fun b8 =>
  if b8 = true then
  some (none,1)
  else
  Option.bind (army_Own a0_w) fun x10 =>
  Option.bind o3 fun z14 =>
  some (some x10,0)
def eng_World (a0_x:Wld):Option Wld :=
  Option.bind (army_Own a0_x) fun x7 =>
  some x7
def eng_Step (a0_x:Wld) (a1_l:List Cmd):Option (List Int × Int × Wld) :=
  if a0_x.tick = 1099511627776 then
  some ([],10,a0_x)
  else
  if 512 < (a1_l.length:Int) then
  some ([],2,a0_x)
  else
  Option.bind (α:=Unit) (loop (σ:=Int) (β:=Unit) (fun v20 =>
  if v20 < (a1_l.length:Int) then
  none
  else
  some (St.done ())) 0) fun _ =>
  Option.bind (army_Own a0_x) fun x14 =>
  if x14.us.length = 0 then
  if I64 (x14.tick + 1) then
  some ([],0,(⟨(x14.tick + 1),x14.players,x14.nextid,x14.g,x14.bs,x14.us⟩:Wld))
  else none
  else none
end Go.Proofs.YtmngdgclldkcfaaGreat
set_option linter.unusedVariables false
set_option linter.unusedSimpArgs false
set_option maxRecDepth 20000
set_option maxHeartbeats 4000000
namespace Go.Proofs.YtmngdgclldkcfaaGreat
open Go.Vg
open Enc (R)
theorem sl87:slTy Tryz.prog 87 = some (112,1,8):=by kernel_rfl
theorem zr112:zeroOf Tryz.prog 112 = some (.int .u64 0):=by kernel_rfl
theorem cloneU64_calls_nil {l:List UInt64} {n c:Nat} (w:World) (hA:R (hpOf w) l [.slice none n c]):Calls Tryz.prog 224 #[.slice none n c] w fun e w'=>∃ q:Option Nat × Nat,e = .returned (rowV q l.length)∧Sat w [row nilH 112 (rowV q l.length) l] w':=by
 refine T.enter (args:=[.slice none n c]) (S:=Sat w []) Tryz.func224 rfl rfl (Sat.start w) ?_
 refine T.seq fun K1 hK1=>?_
 refine T.region ?_
 refine RS.p (Pu.assign rfl) rfl rfl ?_
 refine RS.nil (hK1 _ _ ?_)
 refine T.seq fun K2 hK2=>?_
 refine T.seq fun K3 hK3=>?_
 refine T.region ?_
 refine RS.p (Pu.move rfl) rfl rfl ?_
 refine RS.p (Pu.eqNilSl usl87 rfl) rfl rfl ?_
 refine RS.nil (hK3 _ _ ?_)
 refine T.cond rfl (fun hc4=>?_) (fun hc4=>?_)
 ·refine T.conseq (fr':=[]) ?_ trivial (fun _ s=>s)
  refine T.seq fun K4 hK4=>?_
  refine T.region ?_
  refine RS.p (Pu.assign rfl) rfl rfl ?_
  refine RS.nil (hK4 _ _ ?_)
  refine T.retTo (by with_reducible ((repeat (first | apply RetTo.seq | apply RetTo.blk)); exact RetTo.refl _)) (Cont.ret1 rfl rfl fun w' s=>?_)
  have hl0:l = []:=by
   obtain ⟨p',c',e',s1,s2,s3⟩:=hA
   simp only [List.cons.injEq,Value.slice.injEq,and_true] at e'
   obtain ⟨rfl,rfl,rfl⟩:=e'
   rcases s3 with h | ⟨b,o,cs,h,_⟩
   ·exact h
   ·cases h
  subst hl0
  exact ⟨(none,0),rfl,s.addEmpty _ (fun p=>.inl ⟨rfl,rfl⟩)⟩
 ·exact absurd hc4 (by simp) -- end
theorem cloneU64_calls_some {l:List UInt64} {a:Addr} {n c:Nat} (hsz:n < 1099511627776) (w:World) (hA:R (hpOf w) l [.slice (some a) n c]):Calls Tryz.prog 224 #[.slice (some a) n c] w fun e w'=>∃ q:Option Nat × Nat,e = .returned (rowV q l.length)∧Sat w [row nilH 112 (rowV q l.length) l] w':=by
 refine T.enter (args:=[.slice (some a) n c]) (S:=Sat w []) Tryz.func224 rfl rfl (Sat.start w) ?_
 refine T.seq fun K1 hK1=>?_
 refine T.region ?_
 refine RS.p (Pu.assign rfl) rfl rfl ?_
 refine RS.nil (hK1 _ _ ?_)
 refine T.seq fun K2 hK2=>?_
 refine T.seq fun K3 hK3=>?_
 refine T.region ?_
 refine RS.p (Pu.move rfl) rfl rfl ?_
 refine RS.p (Pu.eqNilSl usl87 rfl) rfl rfl ?_
 refine RS.nil (hK3 _ _ ?_)
 refine T.cond rfl (fun hc4=>?_) (fun hc4=>?_)
 ·exact absurd hc4 (by simp) -- end
 ·refine T.skip (hK2 _ _ (T.conseq (fr':=[(0,_)]) ?_ ⟨rfl,trivial⟩ (fun _ s=>s)))
  refine T.seq fun K4 hK4=>?_
  refine T.region ?_
  refine RS.solid (Sd.lit0 (α:=UInt64) (B:=nilH) sl87) rfl rfl fun b5=>?_
  refine RS.p (Pu.move rfl) rfl rfl ?_
  refine RS.solid (Sd.appB (α:=UInt64) 0 (nilH_lt _) rfl sl87 zr112 rfl rfl rfl hA (by simp only [List.length_nil]; omega) (by simp only [List.length_nil]; unfold maxLen; omega)) rfl rfl fun q7=>?_
  refine RS.p (Pu.assign rfl) rfl rfl ?_
  refine RS.nil (hK4 _ _ (T.conseq (fr':=[(2,_)]) ?_ ⟨rfl,trivial⟩ (fun _ s=>s)))
  refine T.retTo (by with_reducible ((repeat (first | apply RetTo.seq | apply RetTo.blk)); exact RetTo.refl _)) (Cont.ret1 rfl rfl fun w' s=>?_)
  have hn:n = l.length:=(R_len hA).1
  simp only [List.length_nil,Nat.zero_add,List.nil_append] at s
  subst hn
  exact ⟨q7,by simp,s.pick (G':=[_]) [0] (by decide) rfl⟩
theorem cloneU64_calls {l:List UInt64} {v:Value} (hsz:l.length < 1099511627776) (w:World) (hA:R (hpOf w) l [v]):Calls Tryz.prog 224 #[v] w fun e w'=>∃ q:Option Nat × Nat,e = .returned (rowV q l.length)∧Sat w [row nilH 112 (rowV q l.length) l] w':=by
 obtain ⟨p,c,rfl⟩:=R_form hA
 cases p with
 | none=>exact cloneU64_calls_nil w hA
 | some a=>exact cloneU64_calls_some hsz w hA
def slices_Clone_U64 (l:List UInt64):Option (List UInt64):=if l.length < 1099511627776 then some l else none
theorem slices_Clone_U64_walk (l:List UInt64) (w:World) {v0:Value} (h0:R (hpOf w) l [v0]) {r:List UInt64} (H:slices_Clone_U64 l = some r):Calls Tryz.prog 224 #[v0] w fun e w'=>∃ g:(Option Nat × Nat),e = .returned (rowV g r.length)∧Sat w [row nilH 112 (rowV g r.length) r] w':=by
 unfold slices_Clone_U64 at H
 obtain ⟨h1,H⟩:=gdE H
 obtain rfl:=Option.some.inj H
 exact cloneU64_calls h1 w h0
end Go.Proofs.YtmngdgclldkcfaaGreat
set_option linter.unusedVariables false
set_option linter.unusedSimpArgs false
set_option maxRecDepth 20000
set_option maxHeartbeats 4000000
namespace Go.Proofs.YtmngdgclldkcfaaGreat
open Go.Vg
open Enc (R)
--BEGIN
theorem tI_sl:slTy Tryz.prog 86 = some (210,Enc.sz Raw3,40):=by kernel_rfl
theorem tI_zr:∃ z,zeroOf Tryz.prog 210 = some z∧z.cells.size = Enc.sz Raw3∧(∀ u ∈ z.cells.toList,u.oneCell' = true)∧R nilH ((⟨.int .i64 0,.int .i64 0,.slice none 0 0,rfl⟩:Raw3):Raw3) z.cells.toList:=⟨(.agg #[.int .i64 0,.int .i64 0,.slice none 0 0]),by kernel_rfl,by rfl,by decide,by rfl⟩
theorem tI_mixed:Tryz.prog.follows .mixedOrders = true:=by kernel_rfl
theorem tI_bool:(Tryz.prog.underlying 3) = some (.int .i64):=by kernel_rfl
def raw_Insert (xs:List Raw3) (i:Int) (ys:List Raw3):Option (List Raw3):=if ys.length = 1∧(0 ≤ i∧i ≤ (xs.length:Int))∧xs.length < 1099511627775 then some (xs.take i.toNat ++ ys ++ xs.drop i.toNat) else none
theorem tI_ovl:∃ fn,Tryz.prog.funcs[(271:Nat)]? = some fn∧isOvl fn 86 4:=⟨_,Tryz.func271,by kernel_rfl,by kernel_rfl,by kernel_rfl,by kernel_rfl⟩
theorem raw_Insert_walk {w0:World} {F:Ch} (a0:List Raw3) (a1:Int) (a2:List Raw3) {q0:Option Nat × Nat} {m0:Nat} (hm:m0 = a0.length) {v0:Value} (hv:Rd (Sat w0 [F]) a2 [v0]) {r:List Raw3} (H:raw_Insert a0 a1 a2 = some r) (w:World) (s:Sat w0 [row nilH 210 (rowV q0 m0) a0,F] w) :
    Calls Tryz.prog 226 #[rowV q0 m0,.int .i64 a1,v0] w fun e w'=>∃ q:Option Nat × Nat,e = .returned (rowV q r.length)∧Sat w0 [row nilH 210 (rowV q r.length) r,F] w':=by
  subst hm
  unfold raw_Insert at H
  obtain ⟨⟨hy1,⟨h0,h1⟩,h3⟩,H⟩:=gdE H
  obtain rfl:=Option.some.inj H
  obtain ⟨y,rfl⟩:∃ y,a2 = [y]:=by
    match a2,hy1 with
    | [y],_=>exact ⟨y,rfl⟩
  obtain ⟨i,rfl⟩:=Int.eq_ofNat_of_zero_le h0
  simp only [Int.toNat_natCast]
  have hin:i ≤ a0.length:=by omega
  have hfit:=s.row_fits (k:=0) rfl
  obtain ⟨p,cc,rfl⟩:=R_form (hv w (s.pick [1] (by decide) rfl))
  have hl1:([y]:List Raw3).length = 1:=rfl
  rw [hl1] at hv ⊢
  obtain ⟨z,hz1,hz2,hz3,hz4⟩:=tI_zr
  refine T.enter (args:=[_,_,_]) (S:=Sat w0 [row nilH 210 (rowV q0 a0.length) a0,F]) Tryz.func226 rfl rfl s ?_
  refine T.seq fun K1 hK1=>?_
  refine T.region ?_
  refine RS.p (Pu.assign rfl) rfl rfl ?_
  refine RS.nil (hK1 _ _ ?_)
  refine T.seq fun K2 hK2=>?_
  refine T.region ?_
  refine RS.p (Pu.move rfl) rfl rfl ?_
  refine RS.p (Pu.move rfl) rfl rfl ?_
  refine RS.p (Pu.sliceL tI_sl rfl rfl (by omega)) rfl rfl ?_
  refine RS.nil (hK2 _ _ ?_)
  refine T.seq fun K3 hK3=>?_
  refine T.region ?_
  refine RS.p (Pu.move rfl) rfl rfl ?_
  refine RS.p (Pu.lenSl tI_sl rfl) rfl rfl ?_
  refine RS.p (Pu.assign rfl) rfl rfl ?_
  refine RS.nil (hK3 _ _ ?_)
  refine T.seq fun K4 hK4=>?_
  refine T.seq fun K5 hK5=>?_
  refine T.region ?_
  refine RS.p (Pu.move rfl) rfl rfl ?_
  refine RS.p (Pu.bin rfl rfl rfl) rfl rfl ?_
  refine RS.nil (hK5 _ _ ?_)
  refine T.condP rfl (fun hc=>absurd hc (by omega)) (fun hc=>?_)
  refine T.skip (hK4 _ _ ?_)
  refine T.seq fun K6 hK6=>?_
  refine T.region ?_
  refine RS.p (Pu.move rfl) rfl rfl ?_
  refine RS.p (Pu.lenSl tI_sl rfl) rfl rfl ?_
  refine RS.p (Pu.assign rfl) rfl rfl ?_
  refine RS.nil (hK6 _ _ ?_)
  refine T.seq fun K7 hK7=>?_
  refine T.seq fun K8 hK8=>?_
  refine T.region ?_
  refine RS.p (Pu.move rfl) rfl rfl ?_
  refine RS.p (Pu.move rfl) rfl rfl ?_
  refine RS.p (Pu.bin rfl rfl rfl) rfl rfl ?_
  refine RS.nil (hK8 _ _ ?_)
  refine T.condP rfl (fun hin'=>?_) (fun hin'=>?_)
  · refine T.seq fun K9 hK9=>?_
    refine T.region ?_
    refine RS.p (Pu.move rfl) rfl rfl ?_
    refine RS.p (Pu.move rfl) rfl rfl ?_
    refine RS.solid (Sd.appR (α:=Raw3) 0 (nilH_lt _) rfl tI_sl hz1 hz2 rfl rfl (Rd.ofFrame 1 rfl hv) (by simp only [List.length_cons,List.length_nil]; omega) (by decide)) rfl rfl fun q=>?_
    refine RS.p (Pu.assign rfl) rfl rfl ?_
    refine RS.nil (hK9 _ _ ?_)
    refine T.retTo (by with_reducible ((repeat (first | apply RetTo.seq | apply RetTo.blk)); exact RetTo.refl _)) (Cont.ret1 rfl rfl fun w' s=>?_)
    have hi:i = a0.length:=by omega
    subst hi
    rw [List.take_length,List.drop_length,List.append_nil]
    exact ⟨q,rfl,s⟩
  refine T.skip (hK7 _ _ ?_)
  have hlt:i < a0.length:=by omega
  refine T.know (p:=∃ g cap,q0 = (some g,cap)) (fun w s=>s.row_some (k:=0) rfl (by omega)) ?_
  rintro ⟨gg,c,rfl⟩
  try dsimp only at hfit
  refine T.seq fun KA1 hKA1=>?_
  refine T.seq fun KB1 hKB1=>?_
  refine T.region ?_
  refine RS.p (Pu.move rfl) rfl rfl ?_
  refine RS.p (Pu.move rfl) rfl rfl ?_
  refine RS.p (Pu.addS rfl rfl (by omega)) rfl rfl ?_
  refine RS.p (Pu.move rfl) rfl rfl ?_
  refine RS.p (Pu.capSl tI_sl rfl) rfl rfl ?_
  refine RS.p (Pu.bin rfl rfl rfl) rfl rfl ?_
  refine RS.nil (hKB1 _ _ ?_)
  refine T.condP rfl (fun hg=>?_) (fun hg=>?_)
  · have hkk:(((a0.length:Nat):Int) + ((1:Nat):Int) - (i:Int)) = ((a0.length + 1 - i:Nat):Int):=by omega
    refine T.seq fun KC1 hKC1=>?_
    refine T.region ?_
    refine RS.p (Pu.move rfl) rfl rfl ?_
    refine RS.p (Pu.move rfl) rfl rfl ?_
    refine RS.p (Pu.sliceHn (j:=i) tI_sl rfl rfl rfl (by omega)) rfl rfl ?_
    refine RS.p (Pu.move rfl) rfl rfl ?_
    refine RS.p (Pu.move rfl) rfl rfl ?_
    refine RS.p (Pu.addS rfl rfl (by omega)) rfl rfl ?_
    refine RS.p (Pu.move rfl) rfl rfl ?_
    refine RS.p (Pu.subS rfl rfl (by omega)) rfl rfl ?_
    refine RS.solid (Sd.appZeros (α:=Raw3) (z0:=(⟨.int .i64 0,.int .i64 0,.slice none 0 0,rfl⟩:Raw3)) (kk:=a0.length + 1 - i) 0 i rfl tI_sl hz1 hz4 (by decide) tI_bool rfl rfl hkk (by omega) (by omega) (by omega) (by omega) (by decide)) rfl rfl fun q=>?_
    refine RS.p (Pu.assign rfl) rfl rfl ?_
    refine RS.nil (hKC1 _ _ ?_)
    have hTl:(a0.take i ++ List.replicate (a0.length + 1 - i) ((⟨.int .i64 0,.int .i64 0,.slice none 0 0,rfl⟩:Raw3):Raw3)).length = i + (a0.length + 1 - i):=by simp only [List.length_append,List.length_take,List.length_replicate]; omega
    refine T.know (p:=∃ g cap,q = (some g,cap)) (fun w s=>s.row_some (k:=2) rfl (by rw [hTl]; omega)) ?_
    rintro ⟨bb,cb,rfl⟩
    refine T.know (fun w s=>s.row_fits (k:=2) rfl) fun hfb=>?_
    try dsimp only at hfb
    have hfb2:=hfb.2.1
    refine T.seq fun KD1 hKD1=>?_
    refine T.region ?_
    refine RS.p (Pu.move rfl) rfl rfl ?_
    refine RS.p (Pu.move rfl) rfl rfl ?_
    refine RS.p (Pu.sliceLs (j:=i) tI_sl rfl rfl rfl (by omega) (by omega)) rfl rfl ?_
    refine RS.p (Pu.move rfl) rfl rfl ?_
    refine RS.solid (Sd.copyR (α:=Raw3) (o:=i) 2 rfl tI_sl rfl rfl (Rd.ofFrame 1 rfl hv) (Nat.zero_add _) (by rw [hTl]; have h:Nat.min 1 (i + (a0.length + 1 - i) - i) ≤ 1:=Nat.min_le_left _ _; omega)) rfl rfl fun _=>?_
    refine RS.nil (hKD1 _ _ ?_)
    refine T.seq fun KE1 hKE1=>?_
    refine T.drawn (fun _=>True) [(0,.pu),(1,.pu),(2,.pu),(3,.pu),(4,.pu),(5,.pu),(6,.pu),(7,.pu),(8,.br)] tI_mixed (ClE.sat _ _) (by kernel_rfl) ?_
    refine RD.p (fun _ _=>trivial) rfl (Pu.move rfl) rfl rfl ?_
    refine RD.p (fun _ _=>trivial) rfl (Pu.move rfl) rfl rfl ?_
    refine RD.p (fun _ _=>trivial) rfl (Pu.move rfl) rfl rfl ?_
    refine RD.p (fun _ _=>trivial) rfl (Pu.addS rfl rfl (by omega)) rfl rfl ?_
    refine RD.p (fun _ _=>trivial) rfl (Pu.sliceLs (j:=i + 1) tI_sl rfl rfl (by omega) (by omega) (by omega)) rfl rfl ?_
    refine RD.p (fun _ _=>trivial) rfl (Pu.move rfl) rfl rfl ?_
    refine RD.p (fun _ _=>trivial) rfl (Pu.move rfl) rfl rfl ?_
    refine RD.p (fun _ _=>trivial) rfl (Pu.sliceLn (j:=i) tI_sl rfl rfl rfl hin) rfl rfl ?_
    have hX:(a0.take i ++ List.replicate (a0.length + 1 - i) ((⟨.int .i64 0,.int .i64 0,.slice none 0 0,rfl⟩:Raw3):Raw3)).take i ++ [y].take (Nat.min 1 (i + (a0.length + 1 - i) - i)) ++ (a0.take i ++ List.replicate (a0.length + 1 - i) ((⟨.int .i64 0,.int .i64 0,.slice none 0 0,rfl⟩:Raw3):Raw3)).drop (i + Nat.min 1 (i + (a0.length + 1 - i) - i)) = (a0.take i ++ List.replicate (a0.length + 1 - i) ((⟨.int .i64 0,.int .i64 0,.slice none 0 0,rfl⟩:Raw3):Raw3)).take i ++ [y].take (Nat.min 1 (a0.length + 1 - i)) ++ (a0.take i ++ List.replicate (a0.length + 1 - i) ((⟨.int .i64 0,.int .i64 0,.slice none 0 0,rfl⟩:Raw3):Raw3)).drop (i + Nat.min 1 (a0.length + 1 - i)):=by rw [Nat.add_sub_cancel_left]
    have hXl:((a0.take i ++ List.replicate (a0.length + 1 - i) ((⟨.int .i64 0,.int .i64 0,.slice none 0 0,rfl⟩:Raw3):Raw3)).take i ++ [y].take (Nat.min 1 (i + (a0.length + 1 - i) - i)) ++ (a0.take i ++ List.replicate (a0.length + 1 - i) ((⟨.int .i64 0,.int .i64 0,.slice none 0 0,rfl⟩:Raw3):Raw3)).drop (i + Nat.min 1 (i + (a0.length + 1 - i) - i))).length = a0.length + 1:=by
      have h:Nat.min 1 (i + (a0.length + 1 - i) - i) = 1:=Nat.min_eq_left (by omega)
      rw [h]; simp only [List.length_append,List.length_take,List.length_drop,List.length_replicate,List.length_cons,List.length_nil]; omega
    refine RD.solid rfl (.inr rfl) rfl rfl (Sd.copyR (α:=Raw3) (o:=i + 1) 2 rfl tI_sl rfl rfl (Rd.drop (Rd.ofRowN 0 rfl) hin rfl) (Nat.zero_add _) (by rw [hXl]; have h:Nat.min (a0.length - i) (i + (a0.length + 1 - i) - (i + 1)) ≤ a0.length - i:=Nat.min_le_left _ _; omega)) (fun _=>ClE.sat _ _) (fun _ _ _=>trivial) (fun h=>nomatch h) fun _=>?_
    refine RD.nil (hKE1 _ _ ?_)
    refine T.seq fun KF1 hKF1=>?_
    refine T.region ?_
    refine RS.p (Pu.move rfl) rfl rfl ?_
    refine RS.p (Pu.assign rfl) rfl rfl ?_
    refine RS.nil (hKF1 _ _ ?_)
    refine T.retTo (by with_reducible ((repeat (first | apply RetTo.seq | apply RetTo.blk)); exact RetTo.refl _)) (Cont.ret1 rfl rfl fun w' s=>?_)
    have hmm:Nat.min (a0.length - i) (i + (a0.length + 1 - i) - (i + 1)) = Nat.min (a0.length - i) (a0.length - i):=by congr 1; omega
    have hfin:=ins_grow (xs:=a0) (i:=i) (y:=y) (z:=((⟨.int .i64 0,.int .i64 0,.slice none 0 0,rfl⟩:Raw3):Raw3)) hlt
    refine ⟨(some bb,cb),?_,?_⟩
    · show Ending.returned (.slice (some ⟨bb,0,none⟩) (i + (a0.length + 1 - i)) cb) = .returned (.slice (some ⟨bb,0,none⟩) (a0.take i ++ [y] ++ a0.drop i).length cb)
      congr 2
      simp only [List.length_append,List.length_take,List.length_drop,List.length_cons,List.length_nil]; omega
    · have s2:=s.pick (G':=[row nilH 210 (.slice (some ⟨bb,0,none⟩) (i + (a0.length + 1 - i)) cb) _,F]) [2,1] (by decide) rfl
      have hl:(a0.take i ++ [y] ++ a0.drop i).length = i + (a0.length + 1 - i):=by simp only [List.length_append,List.length_take,List.length_drop,List.length_cons,List.length_nil]; omega
      rw [hmm,hX,hfin] at s2
      rw [hl]
      exact s2
  refine T.skip (hKA1 _ _ ?_)
  have hroom:a0.length + 1 ≤ c:=by omega
  obtain ⟨bv,ov,rfl,hbv,_⟩:=apart_of (C:=row nilH 210 (rowV (some gg,c) a0.length) a0) (F:=F) s (fun q hq=>by
    rcases hq with ⟨hq,_⟩ | ⟨g',cap,cs,sp,hq,h1,_⟩
    · simp [rowV] at hq
    · simp only [rowV,Option.map_some,Value.slice.injEq,Option.some.injEq,Addr.mk.injEq,and_true] at hq
      obtain ⟨rfl,_⟩:=hq
      exact ⟨_,h1⟩) hv (by decide)
  refine T.seq fun KG1 hKG1=>?_
  refine T.region ?_
  refine RS.p (Pu.move rfl) rfl rfl ?_
  refine RS.p (Pu.move rfl) rfl rfl ?_
  refine RS.p (Pu.move rfl) rfl rfl ?_
  refine RS.p (Pu.addS rfl rfl (by omega)) rfl rfl ?_
  refine RS.p (Pu.sliceHn (j:=a0.length + 1) tI_sl rfl rfl (by omega) hroom) rfl rfl ?_
  refine RS.p (Pu.assign rfl) rfl rfl ?_
  refine RS.nil (hKG1 _ _ ?_)
  refine T.seq fun KH1 hKH1=>?_
  refine T.seq fun KI1 hKI1=>?_
  refine T.region ?_
  refine RS.p (Pu.move rfl) rfl rfl ?_
  refine RS.p (Pu.move rfl) rfl rfl ?_
  refine RS.p (Pu.move rfl) rfl rfl ?_
  refine RS.p (Pu.move rfl) rfl rfl ?_
  refine RS.p (Pu.addS rfl rfl (by omega)) rfl rfl ?_
  refine RS.p (Pu.sliceLs (j:=i + 1) tI_sl rfl rfl (by omega) (by omega) (by omega)) rfl rfl ?_
  obtain ⟨fno,hfo,hoo⟩:=tI_ovl
  refine RS.q (Qt.overlaps hfo hoo tI_sl rfl rfl (fun w s=>?_)) rfl rfl ?_
  · have hsp:Sat w0 [row nilH 210 (rowV (some gg,c) a0.length) a0,F] w:=s
    obtain ⟨b2,o2,e2,hb2,hcells⟩:=apart_of (C:=row nilH 210 (rowV (some gg,c) a0.length) a0) (F:=F) hsp (fun q hq=>by
      rcases hq with ⟨hq,_⟩ | ⟨g',cap,cs,sp,hq,h1,_⟩
      · simp [rowV] at hq
      · simp only [rowV,Option.map_some,Value.slice.injEq,Option.some.injEq,Addr.mk.injEq,and_true] at hq
        obtain ⟨rfl,_⟩:=hq
        exact ⟨_,h1⟩) hv (by decide)
    simp only [Option.some.injEq,Addr.mk.injEq,and_true] at e2
    obtain ⟨rfl,rfl⟩:=e2
    obtain ⟨cs,sp,k1,_,k3,_⟩:=hsp.rowCells (k:=0) rfl
    refine ⟨hbv,hcells,_,_,k1,?_⟩
    simp only [List.size_toArray]
    rw [k3]
    exact Nat.mul_pos (by omega) (by decide)
  refine RS.p (Pu.not rfl) rfl rfl ?_
  refine RS.nil (hKI1 _ _ ?_)
  refine T.condT rfl ?_
  refine T.seq fun KJ1 hKJ1=>?_
  refine T.drawn (fun _=>True) [(0,.pu),(1,.pu),(2,.pu),(3,.pu),(4,.pu),(5,.pu),(6,.pu),(7,.pu),(8,.br)] tI_mixed (ClE.sat _ _) (by kernel_rfl) ?_
  refine RD.p (fun _ _=>trivial) rfl (Pu.move rfl) rfl rfl ?_
  refine RD.p (fun _ _=>trivial) rfl (Pu.move rfl) rfl rfl ?_
  refine RD.p (fun _ _=>trivial) rfl (Pu.move rfl) rfl rfl ?_
  refine RD.p (fun _ _=>trivial) rfl (Pu.addS rfl rfl (by omega)) rfl rfl ?_
  refine RD.p (fun _ _=>trivial) rfl (Pu.sliceLs (j:=i + 1) tI_sl rfl rfl (by omega) (by omega) (by omega)) rfl rfl ?_
  refine RD.p (fun _ _=>trivial) rfl (Pu.move rfl) rfl rfl ?_
  refine RD.p (fun _ _=>trivial) rfl (Pu.move rfl) rfl rfl ?_
  refine RD.p (fun _ _=>trivial) rfl (Pu.sliceLs (j:=i) tI_sl rfl rfl rfl (by omega) (by omega)) rfl rfl ?_
  refine RD.solid rfl (.inr rfl) rfl rfl (Sd.copyUp (α:=Raw3) 0 i rfl tI_sl hlt hroom (vsl (by omega) (by omega)) (vsl (by omega) rfl) (by omega)) (fun _=>ClE.sat _ _) (fun _ _ _=>trivial) (fun h=>nomatch h) fun _=>?_
  refine RD.nil (hKJ1 _ _ ?_)
  have hXl:(a0.take (i + 1) ++ a0.drop i).length = a0.length + 1:=by simp only [List.length_append,List.length_take,List.length_drop]; omega
  refine T.seq fun KL1 hKL1=>?_
  refine T.region ?_
  refine RS.p (Pu.move rfl) rfl rfl ?_
  refine RS.p (Pu.move rfl) rfl rfl ?_
  refine RS.p (Pu.sliceLs (j:=i) tI_sl rfl rfl rfl (by omega) (by omega)) rfl rfl ?_
  refine RS.p (Pu.move rfl) rfl rfl ?_
  refine RS.solid (Sd.copyR (α:=Raw3) (o:=i) 0 rfl tI_sl rfl rfl (Rd.ofFrame 1 rfl hv) (Nat.zero_add _) (by rw [hXl]; have h:Nat.min 1 (a0.length + 1 - i) ≤ 1:=Nat.min_le_left _ _; omega)) rfl rfl fun _=>?_
  refine RS.nil (hKL1 _ _ ?_)
  refine T.seq fun KM1 hKM1=>?_
  refine T.region ?_
  refine RS.p (Pu.move rfl) rfl rfl ?_
  refine RS.p (Pu.assign rfl) rfl rfl ?_
  refine RS.nil (hKM1 _ _ ?_)
  refine T.retTo (by with_reducible ((repeat (first | apply RetTo.seq | apply RetTo.blk)); exact RetTo.refl _)) (Cont.ret1 rfl rfl fun w' s=>?_)
  have hfin:=ins_up (xs:=a0) (i:=i) (y:=y) (m:=Nat.min 1 (a0.length + 1 - i)) hlt (Nat.min_eq_left (by omega))
  have hl:(a0.take i ++ [y] ++ a0.drop i).length = a0.length + 1:=by simp only [List.length_append,List.length_take,List.length_drop,List.length_cons,List.length_nil]; omega
  have s2:=s.pick (G':=[row nilH 210 (.slice (some ⟨gg,0,none⟩) (a0.length + 1) c) _,F]) [0,1] (by decide) rfl
  rw [hfin] at s2
  rw [hl]
  exact ⟨(some gg,c),rfl,s2⟩

def slices_InsertI (xs:List Inp) (i:Int) (ys:List Inp):Option (List Inp):=if ys.length = 1∧(0 ≤ i∧i ≤ (xs.length:Int))∧xs.length < 1099511627775 then some (xs.take i.toNat ++ ys ++ xs.drop i.toNat) else none
theorem slices_InsertI_walk {w0:World} {F:Ch} (a0:List Inp) (a1:Int) (a2:List Inp) {q0:Option Nat × Nat} {m0:Nat} (hm:m0 = a0.length) {e2:TypeId} {v0:Value} {r:List Inp} (H:slices_InsertI a0 a1 a2 = some r) (w:World) (s:Sat w0 [star (drow 210 (rowV q0 m0) a0) (drow e2 v0 a2),F] w) :
    Calls Tryz.prog 226 #[rowV q0 m0,.int .i64 a1,v0] w fun e w'=>∃ q:Option Nat × Nat,e = .returned (rowV q r.length)∧Sat w0 [drow 210 (rowV q r.length) r,F] w':=by
  unfold slices_InsertI at H
  obtain ⟨⟨hy1,⟨h0,h1⟩,h3⟩,H⟩:=gdE H
  obtain rfl:=Option.some.inj H
  obtain ⟨zs,hz,s2⟩:=(s.unstarAt 0 rfl).toZ (α:=Inp) rfl 0 rfl
  obtain ⟨ys,hy,s3⟩:=s2.toZ (α:=Inp) rfl 2 rfl
  have hzl:(zs.map (·.2)).length = a0.length:=by rw [← hz]; simp
  have hyl:(ys.map (·.2)).length = a2.length:=by rw [← hy]; simp
  have hI:raw_Insert (zs.map (·.2)) a1 (ys.map (·.2)) = some ((zs.take a1.toNat ++ ys ++ zs.drop a1.toNat).map (·.2)):=by
    unfold raw_Insert
    rw [hzl,hyl,if_pos ⟨hy1,⟨h0,h1⟩,h3⟩]
    simp [List.map_take,List.map_drop]
  have hfst:(zs.take a1.toNat ++ ys ++ zs.drop a1.toNat).map (·.1) = a0.take a1.toNat ++ a2 ++ a0.drop a1.toNat:=by
    rw [← hz,← hy]; simp [List.map_take,List.map_drop]
  refine (raw_Insert_walk (zs.map (·.2)) a1 (ys.map (·.2)) (by rw [hzl]; exact hm) (Rd.rest 2 rfl (by decide) (Rd.ofRowN 0 rfl)) hI w (s3.focus (k:=0) rfl)).mono ?_
  rintro e w' ⟨q,rfl,s4⟩
  have s5:=Sat.unfocus (D:=[]) (G:=[row nilH 210 (rowV q0 m0) (zs.map (·.2)),F,row nilH e2 v0 (ys.map (·.2)),inn zs,inn ys]) (k:=0) (Nat.zero_lt_succ _) s4
  have s6:=s5.merge2 3 4 rfl rfl (by decide) (inn (zs.take a1.toNat ++ ys ++ zs.drop a1.toNat)) fun p q r a b d l1 l2=>by
    refine DZ.perm ?_ (DZ.append b a d l1 l2)
    have e1:zs ++ ys = zs.take a1.toNat ++ (zs.drop a1.toNat ++ ys):=by rw [← List.append_assoc,List.take_append_drop]
    rw [e1,List.append_assoc]
    exact List.Perm.append_left _ List.perm_append_comm
  have s7:=s6.ofZ (α:=Inp) rfl 0 3 rfl rfl (by decide) (zs:=zs.take a1.toNat ++ ys ++ zs.drop a1.toNat) rfl
  refine ⟨q,?_,?_⟩
  · rw [← hfst]; simp
  · rw [← hfst]
    have s8:=s7.pick (G':=[_,F]) [0,1] (by decide) rfl
    simpa using s8
end Go.Proofs.YtmngdgclldkcfaaGreat
set_option linter.unusedVariables false
set_option linter.unusedSimpArgs false
set_option maxRecDepth 20000
set_option maxHeartbeats 4000000
namespace Go.Proofs.YtmngdgclldkcfaaGreat
open Go.Vg
open Enc (R)
def cmp_Or (a0_vals:List Int):Option Int :=
  Option.bind (α:=Ex (Unit) (Int)) (loop (σ:=Int) (β:=Ex (Unit) (Int)) (fun v2 =>
  if v2 < (a0_vals.length:Int) then
  if 0 ≤ v2∧v2 < (a0_vals.length:Int) then
  if ¬ (gi a0_vals v2) = 0 then
  some (St.done (Ex.up (gi a0_vals v2)))
  else
  if I64 (v2 + 1) then
  some (St.next (v2 + 1))
  else none
  else none
  else
  some (St.done (Ex.go ()))) 0) fun x=>x.then fun _ =>
  some 0
def turns_less (a0_a:Inp) (a1_b:Inp):Option Int :=
  Option.bind (cmp_Compare a0_a.turn a1_b.turn) fun x3 =>
  Option.bind (cmp_Compare a0_a.player a1_b.player) fun x4 =>
  Option.bind (cmp_Or [x3,x4]) fun x6 =>
  some x6
def turns_Said (a0_player:Int) (a1_l:List Cmd):Option Bool :=
  Option.bind (α:=Ex (Unit) (Bool)) (loop (σ:=Int) (β:=Ex (Unit) (Bool)) (fun v2 =>
  if v2 < (a1_l.length:Int) then
  if 0 ≤ v2∧v2 < (a1_l.length:Int) then
  Option.bind (command_May (gi a1_l v2)) fun x15 =>
  if ¬ (((!x15) = true) ∨ (¬ (gi a1_l v2).player = a0_player))→((0 < v2)→(I64 (v2 - 1))) then
  if ¬ (((!x15) = true) ∨ (¬ (gi a1_l v2).player = a0_player))→((0 < v2)→(0 ≤ (v2 - 1)∧(v2 - 1) < (a1_l.length:Int))) then
  if (((!x15) = true) ∨ (¬ (gi a1_l v2).player = a0_player)) ∨ ((0 < v2)∧((gi a1_l v2).seq ≤ (gi a1_l (v2 - 1)).seq)) then
  some (St.done (Ex.up false))
  else
  if I64 (v2 + 1) then
  some (St.next (v2 + 1))
  else none
  else none
  else none
  else none
  else
  some (St.done (Ex.go ()))) 0) fun x=>x.then fun _ =>
  some (decide ((a1_l.length:Int) ≤ 64))
def turns_May (a0_i:Inp):Option Bool :=
  Option.bind (if (((0 ≤ a0_i.turn)∧(a0_i.turn ≤ 1099511627776))∧(1 ≤ a0_i.player))∧(a0_i.player ≤ 8) then
  Option.bind (turns_Said a0_i.player a0_i.commands) fun x12 =>
  some x12
  else
  some false) fun b10 =>
  some b10
def turns_Own (a0_i:Inp):Option Inp :=
  Option.bind (command_OwnAll a0_i.commands) fun x3 =>
  some (⟨a0_i.turn,a0_i.player,x3⟩:Inp)
def turns_OwnAll (a0_l:List Inp):Option (List Inp) :=
  Option.bind (α:=List Inp) (loop (σ:=List Inp × Int) (β:=List Inp) (fun (l4,v6) =>
  if v6 < (a0_l.length:Int) then
  if 0 ≤ v6∧v6 < (a0_l.length:Int) then
  Option.bind (turns_Own (gi a0_l v6)) fun x19 =>
  if l4.length + 1 < 1099511627776 then
  if I64 (v6 + 1) then
  some (St.next ((l4 ++ ([x19]:List Inp)),(v6 + 1)))
  else none
  else none
  else none
  else
  some (St.done l4)) ([],0)) fun v2 =>
  some v2
def turns_Rising (a0_l:List Inp):Option Bool :=
  Option.bind (α:=Ex (Unit) (Bool)) (loop (σ:=Int) (β:=Ex (Unit) (Bool)) (fun v2 =>
  if v2 < (a0_l.length:Int) then
  if 0 ≤ v2∧v2 < (a0_l.length:Int) then
  Option.bind (turns_May (gi a0_l v2)) fun x15 =>
  Option.bind (if (!x15) = true then
  some true
  else
  Option.bind (if 0 < v2 then
  if I64 (v2 - 1) then
  if 0 ≤ (v2 - 1)∧(v2 - 1) < (a0_l.length:Int) then
  Option.bind (turns_less (gi a0_l (v2 - 1)) (gi a0_l v2)) fun x34 =>
  some (decide (0 ≤ x34))
  else none
  else none
  else
  some false) fun b24 =>
  some b24) fun b18 =>
  if b18 = true then
  some (St.done (Ex.up false))
  else
  if I64 (v2 + 1) then
  some (St.next (v2 + 1))
  else none
  else none
  else
  some (St.done (Ex.go ()))) 0) fun x=>x.then fun _ =>
  some true
def turns_All (a0_l:List Inp):Option (List Cmd) :=
  Option.bind (α:=List Cmd) (loop (σ:=List Cmd × Int) (β:=List Cmd) (fun (l4,v6) =>
  if v6 < (a0_l.length:Int) then
  if 0 ≤ v6∧v6 < (a0_l.length:Int) then
  Option.bind (command_OwnAll ((gi a0_l v6).commands)) fun x19 =>
  if l4.length + x19.length < 1099511627776 then
  if I64 (v6 + 1) then
  some (St.next ((l4 ++ x19),(v6 + 1)))
  else none
  else none
  else none
  else
  some (St.done l4)) ([],0)) fun v2 =>
  some v2
def turns_Part (a0_l:List Inp) (a1_turn:Int):Option (List Inp × List Inp) :=
  Option.bind (α:=List Inp × List Inp) (loop (σ:=List Inp × List Inp × Int) (β:=List Inp × List Inp) (fun (l6,l8,v10) =>
  if v10 < (a0_l.length:Int) then
  if 0 ≤ v10∧v10 < (a0_l.length:Int) then
  if (gi a0_l v10).turn = a1_turn then
  Option.bind (turns_Own (gi a0_l v10)) fun x24 =>
  if l6.length + 1 < 1099511627776 then
  if I64 (v10 + 1) then
  some (St.next ((l6 ++ ([x24]:List Inp)),l8,(v10 + 1)))
  else none
  else none
  else
  Option.bind (turns_Own (gi a0_l v10)) fun x30 =>
  if l8.length + 1 < 1099511627776 then
  if I64 (v10 + 1) then
  some (St.next (l6,(l8 ++ ([x30]:List Inp)),(v10 + 1)))
  else none
  else none
  else none
  else
  some (St.done (l6,l8))) ([],[],0)) fun (v2,v4) =>
  some (v2,v4)
def slices_BinarySearchFuncI (a0_x:List Inp) (a1_target:Inp) (a2_cmp:(Inp × Inp)→Option Int):Option (Int × Bool) :=
  Option.bind (α:=Int) (loop (σ:=Int × Int) (β:=Int) (fun (v18,v19) =>
  if v18 < v19 then
  if I64 (v18 + v19) then
  if 0 ≤ ((v18 + v19) % 18446744073709551616) then
  if I64 (((v18 + v19) % 18446744073709551616) / 2) then
  if 0 ≤ (((v18 + v19) % 18446744073709551616) / 2)∧(((v18 + v19) % 18446744073709551616) / 2) < (a0_x.length:Int) then
  Option.bind (a2_cmp ((gi a0_x (((v18 + v19) % 18446744073709551616) / 2)),a1_target)) fun x34 =>
  if x34 < 0 then
  if I64 ((((v18 + v19) % 18446744073709551616) / 2) + 1) then
  some (St.next (((((v18 + v19) % 18446744073709551616) / 2) + 1),v19))
  else none
  else
  some (St.next (v18,(((v18 + v19) % 18446744073709551616) / 2)))
  else none
  else none
  else none
  else none
  else
  some (St.done v18)) (0,(a0_x.length:Int))) fun v3 =>
  Option.bind (if v3 < (a0_x.length:Int) then
  if 0 ≤ v3∧v3 < (a0_x.length:Int) then
  Option.bind (a2_cmp ((gi a0_x v3),a1_target)) fun x17 =>
  some (decide (x17 = 0))
  else none
  else
  some false) fun b6 =>
  some (v3,b6)
def turns_In (a0_l:List Inp) (a1_i:Inp):Option (List Inp × Bool) :=
  Option.bind (slices_BinarySearchFuncI a0_l a1_i (fun (y0,y1)=>turns_less y0 y1)) fun x2 =>
  if x2.2 = true then
  some ([],false)
  else
  Option.bind (turns_OwnAll a0_l) fun x4 =>
  Option.bind (turns_Own a1_i) fun x6 =>
  Option.bind (slices_InsertI x4 x2.1 ([x6]:List Inp)) fun x9 =>
  some (x9,true)
end Go.Proofs.YtmngdgclldkcfaaGreat
set_option linter.unusedVariables false
set_option linter.unusedSimpArgs false
set_option maxRecDepth 20000
set_option maxHeartbeats 4000000
namespace Go.Proofs.YtmngdgclldkcfaaGreat
open Go.Vg
open Enc (R)
def slices_Min (a0_x:List Int):Option Int :=
  Option.bind (α:=Unit) (if (a0_x.length:Int) < 1 then
  none
  else
  some ()) fun _ =>
  if 0 ≤ (0:Int)∧(0:Int) < (a0_x.length:Int) then
  Option.bind (α:=Int) (loop (σ:=Int × Int) (β:=Int) (fun (v7,v8) =>
  if v8 < (a0_x.length:Int) then
  if 0 ≤ v8∧v8 < (a0_x.length:Int) then
  if I64 (v8 + 1) then
  some (St.next ((min v7 (gi a0_x v8)),(v8 + 1)))
  else none
  else none
  else
  some (St.done v7)) ((gi a0_x (0:Int)),1)) fun v6 =>
  some v6
  else none
def slices_MaxI (a0_x:List Int):Option Int :=
  Option.bind (α:=Unit) (if (a0_x.length:Int) < 1 then
  none
  else
  some ()) fun _ =>
  if 0 ≤ (0:Int)∧(0:Int) < (a0_x.length:Int) then
  Option.bind (α:=Int) (loop (σ:=Int × Int) (β:=Int) (fun (v7,v8) =>
  if v8 < (a0_x.length:Int) then
  if 0 ≤ v8∧v8 < (a0_x.length:Int) then
  if I64 (v8 + 1) then
  some (St.next ((max v7 (gi a0_x v8)),(v8 + 1)))
  else none
  else none
  else
  some (St.done v7)) ((gi a0_x (0:Int)),1)) fun v6 =>
  some v6
  else none
def peer_counts (a0_p:Per) (a1_l:List Int):Option Bool :=
  Option.bind (α:=Ex (Unit) (Bool)) (loop (σ:=Int) (β:=Ex (Unit) (Bool)) (fun v9 =>
  if v9 < (a1_l.length:Int) then
  if 0 ≤ v9∧v9 < (a1_l.length:Int) then
  if I64 (a0_p.delay - 1) then
  if ¬ ((gi a1_l v9) < (a0_p.delay - 1))→(I64 (a0_p.turn + 16)) then
  if (((gi a1_l v9) < (a0_p.delay - 1)) ∨ ((a0_p.turn + 16) < (gi a1_l v9))) ∨ (1099511627776 < (gi a1_l v9)) then
  some (St.done (Ex.up false))
  else
  if I64 (v9 + 1) then
  some (St.next (v9 + 1))
  else none
  else none
  else none
  else none
  else
  some (St.done (Ex.go ()))) 0) fun x=>x.then fun _ =>
  if ((a1_l.length:Int) = a0_p.players)→(I64 (a0_p.id - 1)) then
  if ((a1_l.length:Int) = a0_p.players)→(0 ≤ (a0_p.id - 1)∧(a0_p.id - 1) < (a1_l.length:Int)) then
  some (decide (((a1_l.length:Int) = a0_p.players)∧((gi a1_l (a0_p.id - 1)) = a0_p.said)))
  else none
  else none
def peer_mine (a0_p:Per):Option Bool :=
  Option.bind (slices_Min a0_p.acked) fun x2 =>
  if I64 (a0_p.said - x2) then
  if ¬ (a0_p.mine.length:Int) = (a0_p.said - x2) then
  some false
  else
  Option.bind (α:=Ex (Unit) (Bool)) (loop (σ:=Int) (β:=Ex (Unit) (Bool)) (fun v6 =>
  if v6 < (a0_p.mine.length:Int) then
  if 0 ≤ v6∧v6 < (a0_p.mine.length:Int) then
  Option.bind (turns_May (gi a0_p.mine v6)) fun x19 =>
  if ¬ (((!x19) = true) ∨ (¬ (gi a0_p.mine v6).player = a0_p.id))→(I64 (a0_p.said - (a0_p.mine.length:Int))) then
  if ¬ (((!x19) = true) ∨ (¬ (gi a0_p.mine v6).player = a0_p.id))→(I64 ((a0_p.said - (a0_p.mine.length:Int)) + 1)) then
  if ¬ (((!x19) = true) ∨ (¬ (gi a0_p.mine v6).player = a0_p.id))→(I64 (((a0_p.said - (a0_p.mine.length:Int)) + 1) + v6)) then
  if (((!x19) = true) ∨ (¬ (gi a0_p.mine v6).player = a0_p.id)) ∨ (¬ (gi a0_p.mine v6).turn = (((a0_p.said - (a0_p.mine.length:Int)) + 1) + v6)) then
  some (St.done (Ex.up false))
  else
  if I64 (v6 + 1) then
  some (St.next (v6 + 1))
  else none
  else none
  else none
  else none
  else none
  else
  some (St.done (Ex.go ()))) 0) fun x=>x.then fun _ =>
  some true
  else none
def peer_inputs (a0_p:Per):Option Bool :=
  Option.bind (α:=Ex (Unit) (Bool)) (loop (σ:=Int) (β:=Ex (Unit) (Bool)) (fun v3 =>
  if v3 < (a0_p.inputs.length:Int) then
  if 0 ≤ v3∧v3 < (a0_p.inputs.length:Int) then
  if ¬ (((gi a0_p.inputs v3).turn < a0_p.turn) ∨ (a0_p.players < (gi a0_p.inputs v3).player))→(I64 (((gi a0_p.inputs v3).player) - 1)) then
  if ¬ (((gi a0_p.inputs v3).turn < a0_p.turn) ∨ (a0_p.players < (gi a0_p.inputs v3).player))→(0 ≤ (((gi a0_p.inputs v3).player) - 1)∧(((gi a0_p.inputs v3).player) - 1) < (a0_p.has.length:Int)) then
  if (((gi a0_p.inputs v3).turn < a0_p.turn) ∨ (a0_p.players < (gi a0_p.inputs v3).player)) ∨ ((gi a0_p.has (((gi a0_p.inputs v3).player) - 1)) < (gi a0_p.inputs v3).turn) then
  some (St.done (Ex.up false))
  else
  if I64 (v3 + 1) then
  some (St.next (v3 + 1))
  else none
  else none
  else none
  else none
  else
  some (St.done (Ex.go ()))) 0) fun x=>x.then fun _ =>
  some true
def peer_May (a0_p:Per):Option Bool :=
  if (((((((a0_p.players < 1) ∨ (8 < a0_p.players)) ∨ (a0_p.id < 1)) ∨ (a0_p.players < a0_p.id)) ∨ (a0_p.delay < 1)) ∨ (8 < a0_p.delay)) ∨ (a0_p.turn < 0)) ∨ (1099511627776 < a0_p.turn) then
  some false
  else
  if I64 (a0_p.delay - 1) then
  if ¬ (a0_p.said < (a0_p.delay - 1))→(I64 (a0_p.turn + a0_p.delay)) then
  if ¬ (a0_p.said < (a0_p.delay - 1))→(I64 ((a0_p.turn + a0_p.delay) - 1)) then
  Option.bind (if ((a0_p.said < (a0_p.delay - 1)) ∨ (((a0_p.turn + a0_p.delay) - 1) < a0_p.said)) ∨ (1099511627776 < a0_p.said) then
  some true
  else
  Option.bind (peer_counts a0_p a0_p.has) fun x57 =>
  some (!x57)) fun b26 =>
  Option.bind (if b26 = true then
  some true
  else
  Option.bind (peer_counts a0_p a0_p.acked) fun x55 =>
  some (!x55)) fun b29 =>
  if b29 = true then
  some false
  else
  Option.bind (slices_Min a0_p.has) fun x31 =>
  if I64 (a0_p.turn - 1) then
  Option.bind (if x31 < (a0_p.turn - 1) then
  some true
  else
  Option.bind (slices_MaxI a0_p.acked) fun x53 =>
  some (decide (a0_p.said < x53))) fun b35 =>
  if ((b35 = true) ∨ (16 < (a0_p.hashes.length:Int))) ∨ (a0_p.turn < (a0_p.hashes.length:Int)) then
  some false
  else
  Option.bind (peer_mine a0_p) fun x41 =>
  Option.bind (if x41 = true then
  Option.bind (turns_Rising a0_p.inputs) fun x51 =>
  some x51
  else
  some false) fun b44 =>
  Option.bind (if b44 = true then
  Option.bind (peer_inputs a0_p) fun x49 =>
  some x49
  else
  some false) fun b47 =>
  some b47
  else none
  else none
  else none
  else none
def peer_Own (a0_p:Per):Option Per :=
  Option.bind (turns_OwnAll a0_p.mine) fun x3 =>
  Option.bind (turns_OwnAll a0_p.inputs) fun x5 =>
  Option.bind (slices_Clone_Int a0_p.has) fun x7 =>
  Option.bind (slices_Clone_Int a0_p.acked) fun x9 =>
  Option.bind (slices_Clone_U64 a0_p.hashes) fun x11 =>
  some (⟨a0_p.id,a0_p.players,a0_p.delay,a0_p.turn,a0_p.said,x3,x5,x7,x9,x11,a0_p.split⟩:Per)
def peer_New (a0_id:Int) (a1_players:Int) (a2_delay:Int):Option (Per × Int) :=
  if (1 ≤ a1_players)∧(a1_players ≤ 8) then
  Option.bind (slices_Repeat_Int [(w64 (a2_delay - 1))] a1_players) fun x7 =>
  Option.bind (slices_Repeat_Int [(w64 (a2_delay - 1))] a1_players) fun x10 =>
  Option.bind (peer_May (⟨a0_id,a1_players,a2_delay,0,(w64 (a2_delay - 1)),[],[],x7,x10,[],false⟩:Per)) fun x12 =>
  if (!x12) = true then
  some ((⟨0,0,0,0,0,[],[],[],[],[],false⟩:Per),1)
  else
  some ((⟨a0_id,a1_players,a2_delay,0,(w64 (a2_delay - 1)),[],[],x7,x10,[],false⟩:Per),0)
  else
  Option.bind (peer_May (⟨a0_id,a1_players,a2_delay,0,(w64 (a2_delay - 1)),[],[],[],[],[],false⟩:Per)) fun x14 =>
  if (!x14) = true then
  some ((⟨0,0,0,0,0,[],[],[],[],[],false⟩:Per),1)
  else
  some ((⟨a0_id,a1_players,a2_delay,0,(w64 (a2_delay - 1)),[],[],[],[],[],false⟩:Per),0)
def peer_can (a0_p:Per):Option Bool :=
  Option.bind (slices_Min a0_p.has) fun x2 =>
  some (decide ((a0_p.turn ≤ x2)∧(a0_p.turn < 1099511627776)))
def peer_Ready (a0_p:Per):Option (List Cmd × Bool × Int) :=
  Option.bind (peer_May a0_p) fun x2 =>
  if (!x2) = true then
  some ([],false,1)
  else
  Option.bind (peer_can a0_p) fun x4 =>
  if (!x4) = true then
  some ([],false,0)
  else
  Option.bind (turns_Part a0_p.inputs a0_p.turn) fun x6 =>
  Option.bind (turns_All x6.1) fun x9 =>
  some (x9,true,0)
def peer_Ran (a0_p:Per) (a1_h:UInt64):Option (Per × Int) :=
  Option.bind (peer_May a0_p) fun x3 =>
  if (!x3) = true then
  some ((⟨0,0,0,0,0,[],[],[],[],[],false⟩:Per),1)
  else
  Option.bind (peer_can a0_p) fun x5 =>
  if (!x5) = true then
  some ((⟨0,0,0,0,0,[],[],[],[],[],false⟩:Per),10)
  else
  Option.bind (peer_Own a0_p) fun x7 =>
  Option.bind (turns_Part x7.inputs x7.turn) fun x13 =>
  if I64 (x7.turn + 1) then
  if x7.hashes.length < 1099511627776 then
  if 16 < ((x7.hashes ++ [a1_h]).length:Int) then
  if 0 ≤ (1:Int)∧(1:Int) ≤ ((x7.hashes ++ [a1_h]).length:Int) then
  some ((⟨x7.id,x7.players,x7.delay,(x7.turn + 1),x7.said,x7.mine,x13.2,x7.has,x7.acked,((x7.hashes ++ [a1_h]).drop (1:Int).toNat),x7.split⟩:Per),0)
  else none
  else
  some ((⟨x7.id,x7.players,x7.delay,(x7.turn + 1),x7.said,x7.mine,x13.2,x7.has,x7.acked,(x7.hashes ++ [a1_h]),x7.split⟩:Per),0)
  else none
  else none
def peer_Say (a0_p:Per) (a1_l:List Cmd):Option (Per × Int) :=
  Option.bind (peer_May a0_p) fun x3 =>
  if (!x3) = true then
  some ((⟨0,0,0,0,0,[],[],[],[],[],false⟩:Per),1)
  else
  if I64 (a0_p.turn + a0_p.delay) then
  if I64 ((a0_p.turn + a0_p.delay) - 1) then
  if (a0_p.said = ((a0_p.turn + a0_p.delay) - 1)) ∨ (a0_p.said = 1099511627776) then
  some ((⟨0,0,0,0,0,[],[],[],[],[],false⟩:Per),10)
  else
  Option.bind (turns_Said a0_p.id a1_l) fun x10 =>
  if (!x10) = true then
  some ((⟨0,0,0,0,0,[],[],[],[],[],false⟩:Per),1)
  else
  Option.bind (peer_Own a0_p) fun x12 =>
  if I64 (x12.said + 1) then
  Option.bind (turns_In x12.inputs (⟨(x12.said + 1),x12.id,a1_l⟩:Inp)) fun x20 =>
  Option.bind (α:=List Inp) (if 1 < x12.players then
  Option.bind (turns_Own (⟨(x12.said + 1),x12.id,a1_l⟩:Inp)) fun x34 =>
  if x12.mine.length + 1 < 1099511627776 then
  some (x12.mine ++ ([x34]:List Inp))
  else none
  else
  some x12.mine) fun v23 =>
  if I64 (x12.id - 1) then
  if I64 (x12.id - 1) then
  if 0 ≤ (x12.id - 1)∧(x12.id - 1) < (x12.has.length:Int) then
  if 0 ≤ (x12.id - 1)∧(x12.id - 1) < (x12.acked.length:Int) then
  some ((⟨x12.id,x12.players,x12.delay,x12.turn,(x12.said + 1),v23,x20.1,(si x12.has (x12.id - 1) (x12.said + 1)),(si x12.acked (x12.id - 1) (x12.said + 1)),x12.hashes,x12.split⟩:Per),0)
  else none
  else none
  else none
  else none
  else none
  else none
  else none
def slices_IndexFuncI (a0_s:List Inp) (a1_f:Inp→Option Bool):Option Int :=
  Option.bind (α:=Ex (Unit) (Int)) (loop (σ:=Int) (β:=Ex (Unit) (Int)) (fun v2 =>
  if v2 < (a0_s.length:Int) then
  if 0 ≤ v2∧v2 < (a0_s.length:Int) then
  Option.bind (a1_f (gi a0_s v2)) fun x14 =>
  if x14 = true then
  some (St.done (Ex.up v2))
  else
  if I64 (v2 + 1) then
  some (St.next (v2 + 1))
  else none
  else none
  else
  some (St.done (Ex.go ()))) 0) fun x=>x.then fun _ =>
  some (-1)
def peer_Notes_1 (a0_i:Inp) (cv0:Per) (cv1:Int):Option Bool :=
  if I64 (cv1 - 1) then
  if 0 ≤ (cv1 - 1)∧(cv1 - 1) < (cv0.acked.length:Int) then
  if I64 ((gi cv0.acked (cv1 - 1)) + 1) then
  some (decide (a0_i.turn = ((gi cv0.acked (cv1 - 1)) + 1)))
  else none
  else none
  else none
def peer_Notes (a0_p:Per):Option (List Nte × Int) :=
  Option.bind (peer_May a0_p) fun x2 =>
  if (!x2) = true then
  some ([],1)
  else
  Option.bind (α:=Int × List Nte) (loop (σ:=List Nte × Int) (β:=Int × List Nte) (fun (l10,v12) =>
  if v12 ≤ a0_p.players then
  if v12 = a0_p.id then
  if I64 (v12 + 1) then
  some (St.next (l10,(v12 + 1)))
  else none
  else
  if I64 (v12 - 1) then
  if 0 ≤ (v12 - 1)∧(v12 - 1) < (a0_p.has.length:Int) then
  Option.bind (α:=Int × UInt64) (if 0 < (a0_p.hashes.length:Int) then
  if I64 (a0_p.turn - 1) then
  if I64 ((a0_p.hashes.length:Int) - 1) then
  if 0 ≤ ((a0_p.hashes.length:Int) - 1)∧((a0_p.hashes.length:Int) - 1) < (a0_p.hashes.length:Int) then
  some ((a0_p.turn - 1),(gi a0_p.hashes ((a0_p.hashes.length:Int) - 1)))
  else none
  else none
  else none
  else
  some ((-1),(0:UInt64))) fun (v25,v26) =>
  Option.bind (slices_IndexFuncI a0_p.mine (fun y0=>peer_Notes_1 y0 a0_p v12)) fun x27 =>
  Option.bind (α:=Int × Int × List Cmd) (if 0 ≤ x27 then
  if 0 ≤ x27∧x27 < (a0_p.mine.length:Int) then
  Option.bind (turns_Own (gi a0_p.mine x27)) fun x48 =>
  some (x48.turn,x48.player,x48.commands)
  else none
  else
  some ((-1),0,[])) fun (v29,v30,v31) =>
  if l10.length + 1 < 1099511627776 then
  if I64 (v12 + 1) then
  some (St.next ((l10 ++ ([(⟨a0_p.id,v12,(⟨v29,v30,v31⟩:Inp),v25,v26,(gi a0_p.has (v12 - 1))⟩:Nte)]:List Nte)),(v12 + 1)))
  else none
  else none
  else none
  else none
  else
  some (St.done (v12,l10))) ([],1)) fun (v6,v8) =>
  some (v8,0)
end Go.Proofs.YtmngdgclldkcfaaGreat
set_option linter.unusedVariables false
set_option linter.unusedSimpArgs false
set_option maxRecDepth 20000
set_option maxHeartbeats 4000000
namespace Go.Proofs.YtmngdgclldkcfaaGreat
open Go.Vg
open Enc (R)
theorem ent158r:Ent Tryz.prog 158:=⟨_,_,Tryz.func158,by kernel_rfl,rfl⟩
theorem sl86r:slTy Tryz.prog 86 = some (210,3,40):=by kernel_rfl
theorem ty210r:tySz Tryz.prog 210 = some (3,true):=by kernel_rfl
theorem zr210r:zeroOf Tryz.prog 210 = some (.agg #[.int .i64 0,.int .i64 0,.slice none 0 0]):=by kernel_rfl
def raw_IndexFunc (a0_s:List Raw3) (a1_f:Raw3→Option Bool):Option Int :=
  Option.bind (α:=Ex (Unit) (Int)) (loop (σ:=Int) (β:=Ex (Unit) (Int)) (fun v2 =>
  if v2 < (a0_s.length:Int) then
  if 0 ≤ v2∧v2 < (a0_s.length:Int) then
  Option.bind (a1_f (gi a0_s v2)) fun x8 =>
  if x8 = true then
  some (St.done (Ex.up v2))
  else
  if I64 (v2 + 1) then
  some (St.next (v2 + 1))
  else none
  else none
  else
  some (St.done (Ex.go ()))) 0) fun x=>x.then fun _ =>
  some (-1)
theorem raw_IndexFunc_walk (a0_s:List Raw3) (a1_f:Raw3→Option Bool) (w:World) {v0 v1:Value} (h0:R (hpOf w) a0_s [v0]) (h1:FnQ Tryz.prog w v1 (fun (y0:Raw3)=>[.agg #[y0.a,y0.b,y0.c]]) (fun (r:Bool)=>.bool r) a1_f) {r:Int} (H:raw_IndexFunc a0_s a1_f = some r):Calls Tryz.prog 158 #[v0,v1] w fun e w'=>e = .returned (.int .i64 r)∧Ext w w':=by
 have hm0:=R_max h0
 obtain ⟨p0,c0,rfl⟩:=R_form h0
 unfold raw_IndexFunc at H
 refine T.enter (args:=[_,_]) (S:=Sat w []) Tryz.func158 rfl rfl (Sat.start w) ?_
 refine T.seq fun K1 hK1=>?_
 refine T.region ?_
 refine RS.p (Pu.assign rfl) rfl rfl ?_
 refine RS.nil (hK1 _ _ ?_)
 refine T.seq fun K2 hK2=>?_
 refine T.seq fun K3 hK3=>?_
 refine T.region ?_
 refine RS.p (Pu.move rfl) rfl rfl ?_
 refine RS.p (Pu.lenSl sl86r rfl) rfl rfl ?_
 refine RS.p (Pu.move rfl) rfl rfl ?_
 refine RS.nil (hK3 _ _ ?_)
 refine T.joinE (σ:=Unit) (γ:=Unit) H Ex.go [] trivial (fun _ _=>[]) (fun _ _=>Sat w []) ?_ ?_
 ·rintro ⟨⟩ ⟨⟩ H
  try dsimp only [Ex.then] at H
  refine Cont.conseq (fr':=[]) ?_ trivial (fun _ s=>s)
  refine id (hK2 _ _ ?_)
  refine T.seq fun K4 hK4=>?_
  refine T.region ?_
  refine RS.p (Pu.assign rfl) rfl rfl ?_
  refine RS.nil (hK4 _ _ ?_)
  obtain rfl:=Option.some.inj H
  refine T.rt (Cont.ret1 rfl rfl fun w' s=>?_)
  exact ⟨rfl,s.ext⟩
 ·intro z1 hz1 HX1 hJ1
  refine T.block ?_
  refine T.loopA (γ:=Unit) hz1 [(0,_),(1,_),(7,_)] (fun v2 _=>[(8,.int .i64 v2)]) (fun v2 _=>Sat w []) () ⟨rfl,rfl,rfl,trivial⟩ ⟨rfl,trivial⟩ (fun w s=>s) ?_
  rintro v2 ⟨⟩ y3 H hd1 KL1 hL1
  try dsimp only [Ex.then] at H
  refine T.conseq (fr':=[(8,_),(0,_),(1,_),(7,_)]) ?_ ⟨rfl,rfl,rfl,rfl,trivial⟩ (fun _ s=>s)
  refine T.seq fun K5 hK5=>?_
  refine T.region ?_
  refine RS.p (Pu.bin rfl rfl rfl) rfl rfl ?_
  refine RS.nil (hK5 _ _ ?_)
  refine T.seq fun K6 hK6=>?_
  refine T.condP rfl (fun hc4=>?_) (fun hc4=>?_)
  ·have H:=ifT hc4 H
   refine T.skip (hK6 _ _ ?_)
   refine T.seq fun K7 hK7=>?_
   refine T.block ?_
   refine T.seq fun K8 hK8=>?_
   refine T.region ?_
   refine RS.p (Pu.move rfl) rfl rfl ?_
   refine RS.p (Pu.assign rfl) rfl rfl ?_
   refine RS.nil (hK8 _ _ ?_)
   refine T.seq fun K9 hK9=>?_
   refine T.region ?_
   refine RS.p (Pu.move rfl) rfl rfl ?_
   refine RS.p (Pu.move rfl) rfl rfl ?_
   refine RS.p (Pu.move rfl) rfl rfl ?_
   obtain ⟨g5,H⟩:=gdE H
   obtain ⟨bl6,ol7,rfl⟩:=R_ptr h0 (ne_of_pos (pos_of g5))
   refine RS.p (Pu.indexSl sl86r rfl rfl g5) rfl rfl ?_
   refine RS.q (Qt.ldW (α:=Raw3) (cs:=[_,_,_]) (Rd.base h0) ty210r rfl rfl g5 rfl (by rintro _ _ rfl; rfl)) rfl rfl ?_
   obtain ⟨x8,hx8,H⟩:=bindE H
   refine RS.q (Qt.callV rfl h1 (fun w s=>s.ext) hx8 rfl) rfl rfl ?_
   refine RS.nil (hK9 _ _ ?_)
   refine T.cond rfl (fun hc9=>?_) (fun hc9=>?_)
   ·have H:=ifT hc9 H
    refine T.conseq (fr':=[(5,_)]) ?_ ⟨rfl,trivial⟩ (fun _ s=>s)
    refine T.seq fun K10 hK10=>?_
    refine T.region ?_
    refine RS.p (Pu.move rfl) rfl rfl ?_
    refine RS.p (Pu.assign rfl) rfl rfl ?_
    refine RS.nil (hK10 _ _ ?_)
    obtain rfl:=hd1 _ H
    have H:=HX1
    obtain rfl:=Option.some.inj H
    refine T.rt (Cont.ret1 rfl rfl fun w' s=>?_)
    exact ⟨rfl,s.ext⟩
   ·have H:=ifB hc9 H
    refine T.skip (hK7 _ _ (T.conseq (fr':=[(0,_),(1,_),(7,_),(8,_)]) ?_ ⟨rfl,rfl,rfl,rfl,trivial⟩ (fun _ s=>s)))
    refine T.region ?_
    obtain ⟨g10,H⟩:=gdE H
    refine RS.p (Pu.addS rfl rfl g10) rfl rfl ?_
    refine RS.p (Pu.move rfl) rfl rfl ?_
    refine RS.nil (hL1 _ _ (v2 + 1) () H ⟨rfl,rfl,rfl,trivial⟩ ⟨rfl,trivial⟩ (fun w s=>s))
  ·have H:=ifF hc4 H
   obtain rfl:=hd1 _ H
   refine T.xt (hJ1 _ _ () () HX1 trivial trivial (fun w s=>s))
def raw_DeleteFunc (a0_s:List Raw3) (a1_del:Raw3→Option Bool):Option (List Raw3) :=
  Option.bind (raw_IndexFunc a0_s a1_del) fun x1 =>
  if x1 = (-1) then
  some a0_s
  else
  if I64 (x1 + 1) then
  Option.bind (α:=Int × List Raw3) (loop (σ:=Int × Int × List Raw3) (β:=Int × List Raw3) (fun (v12,v13,l14) =>
  if v13 < (a0_s.length:Int) then
  if 0 ≤ v13∧v13 < (a0_s.length:Int) then
  Option.bind (a1_del (gi l14 v13)) fun x22 =>
  if (!x22) = true then
  if 0 ≤ v12∧v12 < (a0_s.length:Int) then
  if I64 (v12 + 1) then
  if I64 (v13 + 1) then
  some (St.next ((v12 + 1),(v13 + 1),(si l14 v12 (gi l14 v13))))
  else none
  else none
  else none
  else
  if I64 (v13 + 1) then
  some (St.next (v12,(v13 + 1),l14))
  else none
  else none
  else
  some (St.done (v12,l14))) (x1,(x1 + 1),a0_s)) fun (v5,v6) =>
  if 0 ≤ v5∧v5 < (a0_s.length:Int) then
  some (v6.take v5.toNat)
  else none
  else none
theorem raw_DeleteFunc_walk {w0:World} {F:Ch} (a0_s:List Raw3) (a1_del:Raw3→Option Bool) {q0:Option Nat × Nat} {m0:Nat} (hm:m0 = a0_s.length) {v0:Value} (h0:FnF Tryz.prog w0 F v0 (fun (y0:Raw3)=>[.agg #[y0.a,y0.b,y0.c]]) (fun (r:Bool)=>.bool r) a1_del) {r:List Raw3} (H:raw_DeleteFunc a0_s a1_del = some r) (w:World) (s:Sat w0 [row nilH 210 (rowV q0 m0) a0_s,F] w):Calls Tryz.prog 280 #[rowV q0 m0,v0] w fun e w'=>∃ q:Option Nat × Nat,e = .returned (rowV q r.length)∧Sat w0 [row nilH 210 (rowV q r.length) r,F] w':=by
 subst hm
 unfold raw_DeleteFunc at H
 refine T.enter (args:=[_,_]) (S:=Sat w0 [row nilH 210 (rowV q0 a0_s.length) a0_s,F]) Tryz.func280 rfl rfl (s) ?_
 refine T.seq fun K1 hK1=>?_
 refine T.region ?_
 refine RS.p (Pu.assign rfl) rfl rfl ?_
 refine RS.nil (hK1 _ _ ?_)
 refine T.seq fun K2 hK2=>?_
 refine T.region ?_
 refine RS.p (Pu.move rfl) rfl rfl ?_
 refine RS.p (Pu.move rfl) rfl rfl ?_
 obtain ⟨x1,hx1,H⟩:=bindE H
 refine RS.q (Qt.call (vs:=[rowV q0 a0_s.length,v0]) ent158r rfl fun w s=>raw_IndexFunc_walk a0_s a1_del w ((Rd.ofRowN 0 rfl) w s) (FnF.toQ h0 (s.pick [1] (by decide) rfl)) hx1) rfl rfl ?_
 refine RS.p (Pu.assign rfl) rfl rfl ?_
 refine RS.nil (hK2 _ _ (T.conseq (fr':=[(0,_),(1,_),(5,_)]) ?_ ⟨rfl,rfl,rfl,trivial⟩ (fun _ s=>s)))
 refine T.seq fun K3 hK3=>?_
 refine T.seq fun K4 hK4=>?_
 refine T.region ?_
 refine RS.p (Pu.move rfl) rfl rfl ?_
 refine RS.p (Pu.bin rfl rfl rfl) rfl rfl ?_
 refine RS.nil (hK4 _ _ ?_)
 refine T.condP rfl (fun hc2=>?_) (fun hc2=>?_)
 ·have H:=ifT hc2 H
  refine T.conseq (fr':=[(0,_)]) ?_ ⟨rfl,trivial⟩ (fun _ s=>s)
  refine T.seq fun K5 hK5=>?_
  refine T.region ?_
  refine RS.p (Pu.move rfl) rfl rfl ?_
  refine RS.p (Pu.assign rfl) rfl rfl ?_
  refine RS.nil (hK5 _ _ ?_)
  obtain rfl:=Option.some.inj H
  refine T.rt (Cont.ret1 rfl rfl fun w' s=>?_)
  exact ⟨q0,rfl,s.pick [0,1] (by decide) rfl⟩
 ·have H:=ifF hc2 H
  refine T.skip (hK3 _ _ ?_)
  refine T.seq fun K6 hK6=>?_
  refine T.seq fun K7 hK7=>?_
  refine T.region ?_
  refine RS.p (Pu.move rfl) rfl rfl ?_
  obtain ⟨g3,H⟩:=gdE H
  refine RS.p (Pu.addS rfl rfl g3) rfl rfl ?_
  refine RS.p (Pu.assign rfl) rfl rfl ?_
  refine RS.nil (hK7 _ _ (T.conseq (fr':=[(0,_),(1,_),(5,_),(6,_)]) ?_ ⟨rfl,rfl,rfl,rfl,trivial⟩ (fun _ s=>s)))
  refine T.joinE (σ:=Int × List Raw3) (γ:=Unit) H (fun s=>s) [(0,_)] ⟨rfl,trivial⟩ (fun (v5,v6) _=>[(5,.int .i64 v5)]) (fun (v5,v6) _=>Sat w0 [row nilH 210 (rowV q0 a0_s.length) v6,F]) ?_ ?_
  ·rintro ⟨v5,v6⟩ ⟨⟩ H
   try dsimp only [Ex.then] at H
   refine Cont.conseq (fr':=[(5,_),(0,_)]) ?_ ⟨rfl,rfl,trivial⟩ (fun _ s=>s)
   refine id (hK6 _ _ ?_)
   refine T.seq fun K8 hK8=>?_
   refine T.region ?_
   refine RS.p (Pu.move rfl) rfl rfl ?_
   refine RS.p (Pu.move rfl) rfl rfl ?_
   obtain ⟨g7,H⟩:=gdE H
   refine RS.know (p:=∃ g cap,q0 = (some g,cap)) (fun w s=>(s.row_some (k:=0) rfl (by have h1:=g7; have h2:=(s.row_fits (q:=q0) (m:=a0_s.length) (k:=0) rfl).1; omega))) ?_
   rintro ⟨gg8,cc9,rfl⟩
   refine RS.know (fun w s=>(s.row_fits (q:=(some gg8,cc9)) (m:=a0_s.length) (k:=0) rfl)) fun hf10=>?_
   refine RS.p (Pu.sliceLs (j:=v5.toNat) sl86r rfl rfl (by have h1:=g7; omega) (by have h1:=g7; omega) (by have h1:=g7; have h2:=hf10.2.1; omega)) rfl rfl ?_
   refine RS.weakS (fun w s=>s.cutRow (q:=(some gg8,cc9)) (m:=a0_s.length) 0 v5.toNat rfl (by have h1:=g7; omega)) ?_
   refine RS.solid (Sd.clearSp (α:=Raw3) 0 v5.toNat rfl sl86r zr210r rfl (by decide) (by simp only [ev,look_cons]; simp; rfl) (by rw [List.length_take]; exact Nat.min_le_left _ _) (by have h1:=g7; have h2:=hf10.2.1; omega) (by have h1:=g7; omega)) rfl rfl fun _=>?_
   refine RS.nil (hK8 _ _ (T.conseq (fr':=[(0,_),(5,_)]) ?_ ⟨rfl,rfl,trivial⟩ (fun _ s=>s)))
   refine T.seq fun K9 hK9=>?_
   refine T.region ?_
   refine RS.p (Pu.move rfl) rfl rfl ?_
   refine RS.p (Pu.move rfl) rfl rfl ?_
   refine RS.know (fun w s=>(s.row_fits (q:=(some gg8,cc9)) (m:=v5.toNat) (k:=0) rfl)) fun hf11=>?_
   refine RS.p (Pu.sliceH sl86r rfl rfl (by have h1:=g7; have h2:=hf11.2.1; omega)) rfl rfl ?_
   refine RS.p (Pu.assign rfl) rfl rfl ?_
   refine RS.nil (hK9 _ _ (T.conseq (fr':=[(4,_)]) ?_ ⟨rfl,trivial⟩ (fun _ s=>s)))
   obtain rfl:=Option.some.inj H
   refine T.rt (Cont.ret1 rfl rfl fun w' s=>?_)
   exact ⟨(some gg8,cc9),(by have h9:=(s.row_fits (q:=(some gg8,cc9)) (m:=v5.toNat) (k:=0) rfl).1; first | (rw [← h9]; done) | (rw [← h9]; rfl)),(Sat.relen (q:=(some gg8,cc9)) (m:=v5.toNat) 0 s rfl).pick [0,1] (by decide) rfl⟩
  ·intro z4 hz4 HX4 hJ4
   refine T.block ?_
   refine T.loopA (γ:=Unit) hz4 [(0,_),(1,_)] (fun (v12,v13,l14) _=>[(5,.int .i64 v12),(6,.int .i64 v13)]) (fun (v12,v13,l14) _=>Sat w0 [row nilH 210 (rowV q0 a0_s.length) l14,F]) () ⟨rfl,rfl,trivial⟩ ⟨rfl,rfl,trivial⟩ (fun w s=>s) ?_
   rintro ⟨v12,v13,l14⟩ ⟨⟩ y15 H hd4 KL4 hL4
   try dsimp only [Ex.then] at H
   refine T.conseq (fr':=[(5,_),(6,_),(0,_),(1,_)]) ?_ ⟨rfl,rfl,rfl,rfl,trivial⟩ (fun _ s=>s)
   refine T.seq fun K10 hK10=>?_
   refine T.seq fun K11 hK11=>?_
   refine T.region ?_
   refine RS.p (Pu.move rfl) rfl rfl ?_
   refine RS.p (Pu.move rfl) rfl rfl ?_
   refine RS.p (Pu.lenSl sl86r rfl) rfl rfl ?_
   refine RS.p (Pu.bin rfl rfl rfl) rfl rfl ?_
   refine RS.nil (hK11 _ _ ?_)
   refine T.condP rfl (fun hc16=>?_) (fun hc16=>?_)
   ·have H:=ifT hc16 H
    refine T.skip (hK10 _ _ (T.conseq (fr':=[(0,_),(1,_),(5,_),(6,_)]) ?_ ⟨rfl,rfl,rfl,rfl,trivial⟩ (fun _ s=>s)))
    refine T.seq fun K12 hK12=>?_
    refine T.block ?_
    refine T.seq fun K13 hK13=>?_
    refine T.region ?_
    refine RS.p (Pu.move rfl) rfl rfl ?_
    refine RS.p (Pu.move rfl) rfl rfl ?_
    obtain ⟨g17,H⟩:=gdE H
    refine RS.know (fun w s=>(s.row_fits (q:=q0) (m:=a0_s.length) (k:=0) rfl)) fun hf18=>?_
    refine RS.know (p:=∃ g cap,q0 = (some g,cap)) (fun w s=>(s.row_some (k:=0) rfl (pos_of (idx_of hf18.1 g17)))) ?_
    rintro ⟨gg19,cc20,rfl⟩
    refine RS.p (Pu.indexSl sl86r rfl rfl g17) rfl rfl ?_
    refine RS.q (Qt.ldW (α:=Raw3) (cs:=[_,_,_]) (Rd.ofRowN 0 rfl) ty210r rfl rfl (idx_of hf18.1 g17) rfl (by rintro _ _ rfl; rfl)) rfl rfl ?_
    refine RS.solid (Sd.alloc zr210r rfl) rfl rfl fun b21=>?_
    refine RS.solid (Sd.stB (cs':=[_,_,_]) 2 ty210r rfl rfl rfl rfl rfl rfl (by exact all_raw _) rfl) rfl rfl fun _=>?_
    refine RS.nil (hK13 _ _ (T.conseq (fr':=[(0,_),(1,_),(5,_),(6,_),(7,_)]) ?_ ⟨rfl,rfl,rfl,rfl,rfl,trivial⟩ (fun _ s=>s)))
    refine T.seq fun K14 hK14=>?_
    refine T.region ?_
    refine RS.p (Pu.move rfl) rfl rfl ?_
    refine RS.q (Qt.ldBA (us:=[_,_,_]) 2 ty210r rfl rfl rfl rfl) rfl rfl ?_
    obtain ⟨x22,hx22,H⟩:=bindE H
    refine RS.q (Qt.callF rfl h0 (fun w s=>s.pick [1] (by decide) rfl) hx22 rfl) rfl rfl ?_
    refine RS.p (Pu.not rfl) rfl rfl ?_
    refine RS.nil (hK14 _ _ ?_)
    refine T.cond rfl (fun hc23=>?_) (fun hc23=>?_)
    ·have H:=ifT hc23 H
     refine T.conseq (fr':=[(0,_),(1,_),(5,_),(6,_),(7,_)]) ?_ ⟨rfl,rfl,rfl,rfl,rfl,trivial⟩ (fun _ s=>s)
     refine T.seq fun K15 hK15=>?_
     refine T.region ?_
     refine RS.p (Pu.move rfl) rfl rfl ?_
     refine RS.p (Pu.move rfl) rfl rfl ?_
     refine RS.q (Qt.ldBA (us:=[_,_,_]) 2 ty210r rfl rfl rfl rfl) rfl rfl ?_
     obtain ⟨g24,H⟩:=gdE H
     refine RS.know (fun w s=>(s.row_fits (q:=(some gg19,cc20)) (m:=a0_s.length) (k:=0) rfl)) fun hf25=>?_
     refine RS.p (Pu.indexSl sl86r rfl rfl g24) rfl rfl ?_
     refine RS.solid (Sd.st0 (α:=Raw3) 0 (gi l14 v13) rfl ty210r rfl rfl rfl (idx_of hf25.1 g24) rfl rfl (by decide) (by exact all_raw _) (by rintro _ _ rfl; rfl)) rfl rfl fun _=>?_
     refine RS.nil (hK15 _ _ (T.conseq (fr':=[(0,_),(1,_),(5,_),(6,_)]) ?_ ⟨rfl,rfl,rfl,rfl,trivial⟩ (fun _ s=>s)))
     refine T.region ?_
     refine RS.p (Pu.move rfl) rfl rfl ?_
     obtain ⟨g26,H⟩:=gdE H
     refine RS.p (Pu.addS rfl rfl g26) rfl rfl ?_
     refine RS.p (Pu.assign rfl) rfl rfl ?_
     refine RS.nil (hK12 _ _ ?_)
     refine T.region ?_
     refine RS.p (Pu.move rfl) rfl rfl ?_
     obtain ⟨g27,H⟩:=gdE H
     refine RS.p (Pu.addS rfl rfl g27) rfl rfl ?_
     refine RS.p (Pu.assign rfl) rfl rfl ?_
     refine RS.nil (hL4 _ _ ((v12 + 1),(v13 + 1),(si l14 v12 (gi l14 v13))) () H ⟨rfl,rfl,trivial⟩ ⟨rfl,rfl,trivial⟩ (fun w s=>s.pick [0,1] (by decide) rfl))
    ·have H:=ifB hc23 H
     refine T.skip (hK12 _ _ (T.conseq (fr':=[(0,_),(1,_),(5,_),(6,_)]) ?_ ⟨rfl,rfl,rfl,rfl,trivial⟩ (fun _ s=>s)))
     refine T.region ?_
     refine RS.p (Pu.move rfl) rfl rfl ?_
     obtain ⟨g28,H⟩:=gdE H
     refine RS.p (Pu.addS rfl rfl g28) rfl rfl ?_
     refine RS.p (Pu.assign rfl) rfl rfl ?_
     refine RS.nil (hL4 _ _ (v12,(v13 + 1),l14) () H ⟨rfl,rfl,trivial⟩ ⟨rfl,rfl,trivial⟩ (fun w s=>s.pick [0,1] (by decide) rfl))
   ·have H:=ifF hc16 H
    obtain rfl:=hd4 _ H
    refine T.xt (hJ4 _ _ (v12,l14) () HX4 ⟨rfl,trivial⟩ ⟨rfl,trivial⟩ (fun w s=>s))
end Go.Proofs.YtmngdgclldkcfaaGreat
set_option linter.unusedVariables false
set_option linter.unusedSimpArgs false
namespace Go.Proofs.YtmngdgclldkcfaaGreat
open Go.Vg
open Enc (R)
theorem raw_ix {xs:List Raw3} {p:Raw3→Option Bool} (hl:xs.length < 1099511627776) (hp:∀ x ∈ xs,∃ b,p x = some b):Ok (raw_IndexFunc xs p) (fun i=>(i = -1∧∀ j:Int,0 ≤ j→j < xs.length→p (gi xs j) = some false) ∨ (0 ≤ i∧i < xs.length∧p (gi xs i) = some true∧∀ j:Int,0 ≤ j→j < i→p (gi xs j) = some false)):=by
  unfold raw_IndexFunc
  refine Ok.bind (R:=fun x=>match x with | .go _=>∀ j:Int,0 ≤ j→j < xs.length→p (gi xs j) = some false | .up i=>0 ≤ i∧i < xs.length∧p (gi xs i) = some true∧∀ j:Int,0 ≤ j→j < i→p (gi xs j) = some false) (Ok.loop (fun i:Int=>0 ≤ i∧i ≤ xs.length∧∀ j:Int,0 ≤ j→j < i→p (gi xs j) = some false) (fun i=>(xs.length - i).toNat) ⟨by omega,by omega,fun j h0 h1=>by omega⟩ (by unfold FUEL; omega) ?_) ?_
  · rintro i ⟨h0,h1,hq⟩
    refine Ok.ite (fun hlt=>Ok.gd ⟨h0,hlt⟩ ?_) (fun hlt=>Ok.ret ?_)
    · obtain ⟨b,hb⟩:=hp _ (gi_mem ⟨h0,hlt⟩)
      refine Ok.bindE hb (Ok.ite (fun hbt=>Ok.ret ?_) (fun hbt=>Ok.gd (by unfold I64; omega) (Ok.ret ?_)))
      · exact ⟨h0,hlt,by rw [hb,hbt],hq⟩
      · refine ⟨⟨by omega,by omega,fun j j0 j1=>?_⟩,by omega⟩
        by_cases hj:j = i
        · subst hj; rw [hb]; cases b <;> simp_all
        · exact hq j j0 (by omega)
    · exact fun j j0 j1=>hq j j0 (by omega)
  · rintro (_ | i) hx
    · exact Ok.ret (.inl ⟨rfl,hx⟩)
    · exact Ok.ret (.inr hx)
theorem set_take {α:Type} {ys:List α} {m:Nat} {x:α} (h:m < ys.length):(ys.set m x).take (m + 1) = ys.take m ++ [x]:=by
  rw [List.take_succ_eq_append_getElem (by simpa using h),List.take_set_of_le (Nat.le_refl _)]
  simp
theorem raw_del {xs:List Raw3} {p:Raw3→Option Bool} (hl:xs.length < 1099511627776) (hp:∀ x ∈ xs,∃ b,p x = some b):raw_DeleteFunc xs p = some (xs.filter (fun x=>p x == some false)):=by
  unfold raw_DeleteFunc
  obtain ⟨i,hi,hix⟩:=raw_ix hl hp
  rw [hi,Option.bind_some]
  have allF:∀ n:Nat,n ≤ xs.length→(∀ j:Int,0 ≤ j→j < n→p (gi xs j) = some false)→(xs.take n).filter (fun x=>p x == some false) = xs.take n:=fun n hn h=>by
    rw [List.filter_eq_self]
    intro x hx
    obtain ⟨j,hj,rfl⟩:=List.getElem_of_mem hx
    rw [List.length_take] at hj
    have:=h j (by omega) (by omega)
    rw [List.getElem_take]
    have e:gi xs (j:Int) = xs[j]'(by omega):=by simp [gi,List.getD,List.getElem?_eq_getElem (show j < xs.length by omega)]
    rw [← e,this]; rfl
  rcases hix with ⟨rfl,hx⟩ | ⟨h0,h1,ht,hx⟩
  · rw [if_pos rfl]
    have:=allF xs.length (Nat.le_refl _) (fun j j0 j1=>hx j j0 j1)
    rw [List.take_length] at this
    rw [this]
  · rw [if_neg (by omega)]
    refine Ok.eq (Ok.gd (by unfold I64; omega) (Ok.bind (R:=fun z:Int × List Raw3=>0 ≤ z.1∧z.1 < xs.length∧z.2.take z.1.toNat = xs.filter (fun x=>p x == some false)) (Ok.loop (fun z:Int × Int × List Raw3=>0 ≤ z.1∧z.1 < z.2.1∧z.2.1 ≤ xs.length∧z.2.2.length = xs.length∧z.2.2.take z.1.toNat = (xs.take z.2.1.toNat).filter (fun x=>p x == some false)∧z.2.2.drop z.2.1.toNat = xs.drop z.2.1.toNat) (fun z=>(xs.length - z.2.1).toNat) ⟨h0,by show i < i + 1; omega,by show i + 1 ≤ _; omega,rfl,?_,rfl⟩ (by unfold FUEL; dsimp only; omega) ?_) ?_))
    · show xs.take i.toNat = (xs.take (i + 1).toNat).filter _
      rw [take_nextV ⟨h0,h1⟩,List.filter_append,allF _ (by omega) (fun j j0 j1=>hx j j0 (by omega))]
      have:([gi xs i].filter (fun x=>p x == some false)) = []:=by
        rw [List.filter_cons_of_neg (by rw [ht]; decide)]; rfl
      rw [this,List.append_nil]
    · rintro ⟨k,j,ys⟩ ⟨k0,kj,jn,hy,h5,h6⟩
      dsimp only at k0 kj jn hy h5 h6 ⊢
      refine Ok.ite (fun hlt=>Ok.gd ⟨by omega,hlt⟩ ?_) (fun hlt=>Ok.ret ?_)
      · have hg:gi ys j = gi xs j:=by
          have:=congrArg (fun l=>l[0]?) h6
          simp only [List.getElem?_drop,Nat.add_zero] at this
          simp [gi,List.getD,this]
        rw [hg]
        obtain ⟨b,hb⟩:=hp _ (gi_mem (xs:=xs) (j:=j) ⟨by omega,hlt⟩)
        have hd1:xs.drop (j + 1).toNat = (xs.drop j.toNat).drop 1:=by rw [List.drop_drop]; congr 1; omega
        have hd2:∀ zs:List Raw3,zs.drop (j + 1).toNat = (zs.drop j.toNat).drop 1:=fun zs=>by rw [List.drop_drop]; congr 1; omega
        refine Ok.bindE hb (Ok.ite (fun hbt=>Ok.gd ⟨k0,by omega⟩ (Ok.gd (by unfold I64; omega) (Ok.gd (by unfold I64; omega) (Ok.ret ?_)))) (fun hbt=>Ok.gd (by unfold I64; omega) (Ok.ret ?_)))
        · have hbf:b = false:=by cases b <;> simp_all
          subst hbf
          refine ⟨⟨by show 0 ≤ k + 1; omega,by show k + 1 < j + 1; omega,by show j + 1 ≤ _; omega,by show (si ys k _).length = _; rw [len_si]; exact hy,?_,?_⟩,by show (xs.length - (j + 1)).toNat < (xs.length - j).toNat; omega⟩
          · show (si ys k (gi xs j)).take (k + 1).toNat = (xs.take (j + 1).toNat).filter _
            have e1:(k + 1).toNat = k.toNat + 1:=by omega
            rw [take_nextV ⟨by omega,hlt⟩,List.filter_append,← h5,List.filter_cons_of_pos (by rw [hb]; decide),e1]
            exact set_take (by omega)
          · show (si ys k (gi xs j)).drop (j + 1).toNat = xs.drop (j + 1).toNat
            have:(si ys k (gi xs j)).drop (j + 1).toNat = ys.drop (j + 1).toNat:=List.drop_set_of_lt (by omega)
            rw [this,hd2,hd2,h6]
        · have hbf:b = true:=by cases b <;> simp_all
          subst hbf
          refine ⟨⟨k0,by show k < j + 1; omega,by show j + 1 ≤ _; omega,hy,?_,?_⟩,by show (xs.length - (j + 1)).toNat < (xs.length - j).toNat; omega⟩
          · show ys.take k.toNat = (xs.take (j + 1).toNat).filter _
            rw [take_nextV ⟨by omega,hlt⟩,List.filter_append,← h5,List.filter_cons_of_neg (by rw [hb]; decide)]
            simp
          · show ys.drop (j + 1).toNat = xs.drop (j + 1).toNat
            rw [hd2,hd2,h6]
      · have:j.toNat = xs.length:=by omega
        rw [this,List.take_length] at h5
        exact ⟨k0,by show k < _; omega,h5⟩
    · rintro ⟨k,ys⟩ ⟨k0,k1,hk⟩
      exact Ok.gd ⟨k0,k1⟩ (Ok.ret hk)
def slices_DeleteFuncI (a0:List Inp) (p:Inp→Option Bool):Option (List Inp):=if (∀ x ∈ a0,(p x).isSome = true∧p x = p ⟨x.turn,x.player,[]⟩)∧a0.length < 1099511627776 then some (a0.filter (fun x=>p x == some false)) else none
def rawP (p:Inp→Option Bool) (z:Raw3):Option Bool:=match z.a,z.b with
  | .int .i64 t,.int .i64 q=>p ⟨t,q,[]⟩
  | _,_=>none
theorem DZ.ints:∀ {zs:List (Inp × Raw3)} {h:Hp},DZ h zs→∀ z ∈ zs,z.2.a = .int .i64 z.1.turn∧z.2.b = .int .i64 z.1.player
  | [],_,_,z,hz=>by cases hz
  | y :: ys,h,⟨p,q,a,b,d,l1,l2⟩,z,hz=>by
    rcases List.mem_cons.1 hz with rfl | hz
    · obtain ⟨u,e,_⟩:=Deep.toR a
      have e:[z.2.a,z.2.b,z.2.c] = [.int .i64 z.1.turn,.int .i64 z.1.player,u]:=e
      simp only [List.cons.injEq] at e
      exact ⟨e.1,e.2.1⟩
    · exact DZ.ints b z hz
theorem slices_DeleteFuncI_walk {w0:World} {F:Ch} (a0:List Inp) (p:Inp→Option Bool) {q0:Option Nat × Nat} {m0:Nat} (hm:m0 = a0.length) {v0:Value} (h0:FnRF Tryz.prog w0 F v0 (fun (y0:Inp) c=>∃ u0:Value,c = [.agg #[.int .i64 y0.turn,.int .i64 y0.player,u0]]) (fun (r:Bool)=>.bool r) p) {r:List Inp} (H:slices_DeleteFuncI a0 p = some r) (w:World) (s:Sat w0 [drow 210 (rowV q0 m0) a0,F] w) :
    Calls Tryz.prog 280 #[rowV q0 m0,v0] w fun e w'=>∃ q:Option Nat × Nat,e = .returned (rowV q r.length)∧Sat w0 [drow 210 (rowV q r.length) r,F] w':=by
  unfold slices_DeleteFuncI at H
  obtain ⟨⟨hp,hl⟩,H⟩:=gdE H
  obtain rfl:=Option.some.inj H
  obtain ⟨zs,hz,s2⟩:=s.toZ (α:=Inp) rfl 0 rfl
  have hzl:(zs.map (·.2)).length = a0.length:=by rw [← hz]; simp
  obtain ⟨hh,hd,_⟩:=s2.get 2 rfl
  have hint:=DZ.ints hd
  have hpz:∀ z ∈ zs,rawP p z.2 = p z.1:=fun z hzm=>by
    obtain ⟨e1,e2⟩:=hint z hzm
    have hx:z.1 ∈ a0:=by rw [← hz]; exact List.mem_map_of_mem hzm
    unfold rawP
    rw [e1,e2]
    exact (hp _ hx).2.symm
  have h0r:FnF Tryz.prog w0 (star F (inn zs)) v0 (fun (y0:Raw3)=>[.agg #[y0.a,y0.b,y0.c]]) (fun (r:Bool)=>.bool r) (rawP p):=by
    obtain ⟨f,cs,e1,e2,e3⟩:=h0
    refine ⟨f,cs,e1,e2,fun x r w' hs hr=>?_⟩
    have hs2:Sat w0 [F] w':=(hs.unstarAt 0 rfl).pick [0] (by decide) rfl
    unfold rawP at hr
    split at hr
    · rename_i t q ha hb
      refine e3 ⟨t,q,[]⟩ _ r w' ⟨x.c,?_⟩ hs2 hr
      show [Value.agg #[x.a,x.b,x.c]] = _
      rw [ha,hb]
    · cases hr
  have hdl:raw_DeleteFunc (zs.map (·.2)) (rawP p) = some ((zs.filter (fun z=>rawP p z.2 == some false)).map (·.2)):=by
    rw [raw_del (by rw [hzl]; exact hl) (fun x hx=>by
      obtain ⟨z,hzm,rfl⟩:=List.mem_map.1 hx
      rw [hpz z hzm]
      have hx:z.1 ∈ a0:=by rw [← hz]; exact List.mem_map_of_mem hzm
      exact Option.isSome_iff_exists.1 (hp _ hx).1),List.filter_map]
    rfl
  have hfst:(zs.filter (fun z=>rawP p z.2 == some false)).map (·.1) = a0.filter (fun x=>p x == some false):=by
    rw [← hz,List.filter_map]
    congr 1
    exact List.filter_congr (fun z hzm=>by rw [hpz z hzm]; rfl)
  have s3:Sat w0 [row nilH 210 (rowV q0 m0) (zs.map (·.2)),star F (inn zs)] w:=((Sat.starAt 1 2 s2 rfl rfl (by decide)).pick [0,1] (by decide) rfl)
  refine (raw_DeleteFunc_walk (zs.map (·.2)) (rawP p) (by rw [hzl]; exact hm) h0r hdl w s3).mono ?_
  rintro e w' ⟨q,rfl,s4⟩
  have s5:=s4.unstarAt 1 rfl
  have s6:=s5.weaken 2 rfl (inn (zs.filter (fun z=>rawP p z.2 == some false))) (fun _ h=>DZ.sub List.filter_sublist h)
  have s7:=s6.ofZ (α:=Inp) rfl 0 2 rfl rfl (by decide) (zs:=zs.filter (fun z=>rawP p z.2 == some false)) rfl
  have hln:((zs.filter (fun z=>rawP p z.2 == some false)).map (·.2)).length = (a0.filter (fun x=>p x == some false)).length:=by rw [← hfst]; simp
  refine ⟨q,by rw [hln],?_⟩
  rw [hfst,hln] at s7
  exact s7.pick [0,1] (by decide) rfl
end Go.Proofs.YtmngdgclldkcfaaGreat
set_option linter.unusedVariables false
set_option linter.unusedSimpArgs false
set_option maxRecDepth 20000
set_option maxHeartbeats 4000000
namespace Go.Proofs.YtmngdgclldkcfaaGreat
open Go.Vg
open Enc (R)
def Per_ch (g:Nat) (x:Per):Ch:=exch fun q:(Option Nat × Nat) × (Option Nat × Nat) × (Option Nat × Nat) × (Option Nat × Nat) × (Option Nat × Nat)=>stars (blk g [.int .i64 x.id,.int .i64 x.players,.int .i64 x.delay,.int .i64 x.turn,.int .i64 x.said,rowV q.1 x.mine.length,rowV q.2.1 x.inputs.length,rowV q.2.2.1 x.has.length,rowV q.2.2.2.1 x.acked.length,rowV q.2.2.2.2 x.hashes.length,.bool x.split] 89 :: [drow 210 (rowV q.1 x.mine.length) x.mine,drow 210 (rowV q.2.1 x.inputs.length) x.inputs,row nilH 3 (rowV q.2.2.1 x.has.length) x.has,row nilH 3 (rowV q.2.2.2.1 x.acked.length) x.acked,row nilH 112 (rowV q.2.2.2.2 x.hashes.length) x.hashes])
theorem Per_open {w0 w:World} {G:List Ch} {g:Nat} {x:Per} (k:Nat) (hk:G[k]? = some (Per_ch g x)) (h:Sat w0 G w):∃ q:(Option Nat × Nat) × (Option Nat × Nat) × (Option Nat × Nat) × (Option Nat × Nat) × (Option Nat × Nat),Sat w0 (G.set k (blk g [.int .i64 x.id,.int .i64 x.players,.int .i64 x.delay,.int .i64 x.turn,.int .i64 x.said,rowV q.1 x.mine.length,rowV q.2.1 x.inputs.length,rowV q.2.2.1 x.has.length,rowV q.2.2.2.1 x.acked.length,rowV q.2.2.2.2 x.hashes.length,.bool x.split] 89) ++ [drow 210 (rowV q.1 x.mine.length) x.mine,drow 210 (rowV q.2.1 x.inputs.length) x.inputs,row nilH 3 (rowV q.2.2.1 x.has.length) x.has,row nilH 3 (rowV q.2.2.2.1 x.acked.length) x.acked,row nilH 112 (rowV q.2.2.2.2 x.hashes.length) x.hashes]) w:=Sat.openAt (A:=fun q:(Option Nat × Nat) × (Option Nat × Nat) × (Option Nat × Nat) × (Option Nat × Nat) × (Option Nat × Nat)=>blk g [.int .i64 x.id,.int .i64 x.players,.int .i64 x.delay,.int .i64 x.turn,.int .i64 x.said,rowV q.1 x.mine.length,rowV q.2.1 x.inputs.length,rowV q.2.2.1 x.has.length,rowV q.2.2.2.1 x.acked.length,rowV q.2.2.2.2 x.hashes.length,.bool x.split] 89) (L:=fun q:(Option Nat × Nat) × (Option Nat × Nat) × (Option Nat × Nat) × (Option Nat × Nat) × (Option Nat × Nat)=>[drow 210 (rowV q.1 x.mine.length) x.mine,drow 210 (rowV q.2.1 x.inputs.length) x.inputs,row nilH 3 (rowV q.2.2.1 x.has.length) x.has,row nilH 3 (rowV q.2.2.2.1 x.acked.length) x.acked,row nilH 112 (rowV q.2.2.2.2 x.hashes.length) x.hashes]) k hk h
theorem Per_shut {w0 w:World} {R:List Ch} {g:Nat} {x:Per} (q:(Option Nat × Nat) × (Option Nat × Nat) × (Option Nat × Nat) × (Option Nat × Nat) × (Option Nat × Nat)) (h:Sat w0 (R ++ [blk g [.int .i64 x.id,.int .i64 x.players,.int .i64 x.delay,.int .i64 x.turn,.int .i64 x.said,rowV q.1 x.mine.length,rowV q.2.1 x.inputs.length,rowV q.2.2.1 x.has.length,rowV q.2.2.2.1 x.acked.length,rowV q.2.2.2.2 x.hashes.length,.bool x.split] 89,drow 210 (rowV q.1 x.mine.length) x.mine,drow 210 (rowV q.2.1 x.inputs.length) x.inputs,row nilH 3 (rowV q.2.2.1 x.has.length) x.has,row nilH 3 (rowV q.2.2.2.1 x.acked.length) x.acked,row nilH 112 (rowV q.2.2.2.2 x.hashes.length) x.hashes]) w):Sat w0 (Per_ch g x :: R) w:=Sat.toEx (C:=fun q:(Option Nat × Nat) × (Option Nat × Nat) × (Option Nat × Nat) × (Option Nat × Nat) × (Option Nat × Nat)=>stars (blk g [.int .i64 x.id,.int .i64 x.players,.int .i64 x.delay,.int .i64 x.turn,.int .i64 x.said,rowV q.1 x.mine.length,rowV q.2.1 x.inputs.length,rowV q.2.2.1 x.has.length,rowV q.2.2.2.1 x.acked.length,rowV q.2.2.2.2 x.hashes.length,.bool x.split] 89 :: [drow 210 (rowV q.1 x.mine.length) x.mine,drow 210 (rowV q.2.1 x.inputs.length) x.inputs,row nilH 3 (rowV q.2.2.1 x.has.length) x.has,row nilH 3 (rowV q.2.2.2.1 x.acked.length) x.acked,row nilH 112 (rowV q.2.2.2.2 x.hashes.length) x.hashes])) q (Sat.toStars (blk g [.int .i64 x.id,.int .i64 x.players,.int .i64 x.delay,.int .i64 x.turn,.int .i64 x.said,rowV q.1 x.mine.length,rowV q.2.1 x.inputs.length,rowV q.2.2.1 x.has.length,rowV q.2.2.2.1 x.acked.length,rowV q.2.2.2.2 x.hashes.length,.bool x.split] 89 :: [drow 210 (rowV q.1 x.mine.length) x.mine,drow 210 (rowV q.2.1 x.inputs.length) x.inputs,row nilH 3 (rowV q.2.2.1 x.has.length) x.has,row nilH 3 (rowV q.2.2.2.1 x.acked.length) x.acked,row nilH 112 (rowV q.2.2.2.2 x.hashes.length) x.hashes]) (G:=R) h)
end Go.Proofs.YtmngdgclldkcfaaGreat
set_option linter.unusedVariables false
set_option linter.unusedSimpArgs false
set_option maxRecDepth 20000
set_option maxHeartbeats 4000000
namespace Go.Proofs.YtmngdgclldkcfaaGreat
open Go.Vg
open Enc (R)
def peer_acked_1 (a0_i:Inp) (cv0:Int):Option Bool :=
  some (decide (a0_i.turn ≤ cv0))
def peer_acked (a0_p:Per) (a1_from:Int) (a2_have:Int):Option Per :=
  if I64 (a1_from - 1) then
  if 0 ≤ (a1_from - 1)∧(a1_from - 1) < (a0_p.acked.length:Int) then
  if (a2_have ≤ (gi a0_p.acked (a1_from - 1))) ∨ (a0_p.said < a2_have) then
  some a0_p
  else
  if I64 (a1_from - 1) then
  if 0 ≤ (a1_from - 1)∧(a1_from - 1) < (a0_p.acked.length:Int) then
  Option.bind (slices_Min (si a0_p.acked (a1_from - 1) a2_have)) fun x15 =>
  Option.bind (slices_DeleteFuncI a0_p.mine (fun y0=>peer_acked_1 y0 x15)) fun x17 =>
  some (⟨a0_p.id,a0_p.players,a0_p.delay,a0_p.turn,a0_p.said,x17,a0_p.inputs,a0_p.has,(si a0_p.acked (a1_from - 1) a2_have),a0_p.hashes,a0_p.split⟩:Per)
  else none
  else none
  else none
  else none
def peer_player (a0_n:Int):Option Bool :=
  some (decide ((1 ≤ a0_n)∧(a0_n ≤ 8)))
def peer_turn (a0_n:Int):Option Bool :=
  some (decide (((-1) ≤ a0_n)∧(a0_n ≤ 1099511627776)))
def peer_MayNote (a0_n:Nte):Option Bool :=
  Option.bind (peer_player a0_n.frm) fun x2 =>
  Option.bind (if (!x2) = true then
  some true
  else
  Option.bind (peer_player a0_n.dst) fun x30 =>
  some (!x30)) fun b5 =>
  Option.bind (if (b5 = true) ∨ (a0_n.frm = a0_n.dst) then
  some true
  else
  Option.bind (peer_turn a0_n.don) fun x28 =>
  some (!x28)) fun b10 =>
  Option.bind (if b10 = true then
  some true
  else
  Option.bind (peer_turn a0_n.hav) fun x26 =>
  some (!x26)) fun b13 =>
  if (b13 = true) ∨ ((a0_n.don = (-1))∧(¬ (a0_n.hash.toNat:Int) = 0)) then
  some false
  else
  if a0_n.input.turn = (-1) then
  some (decide ((a0_n.input.player = 0)∧((a0_n.input.commands.length:Int) = 0)))
  else
  Option.bind (turns_May a0_n.input) fun x20 =>
  some (decide ((x20 = true)∧(a0_n.input.player = a0_n.frm)))
def peer_split (a0_p:Per) (a1_done:Int) (a2_hash:UInt64):Option Bool :=
  if I64 (a0_p.turn - a1_done) then
  if I64 ((a0_p.hashes.length:Int) - (a0_p.turn - a1_done)) then
  if ((a1_done < a0_p.turn)∧(0 ≤ ((a0_p.hashes.length:Int) - (a0_p.turn - a1_done))))→(0 ≤ ((a0_p.hashes.length:Int) - (a0_p.turn - a1_done))∧((a0_p.hashes.length:Int) - (a0_p.turn - a1_done)) < (a0_p.hashes.length:Int)) then
  some (decide (((a1_done < a0_p.turn)∧(0 ≤ ((a0_p.hashes.length:Int) - (a0_p.turn - a1_done))))∧(¬ ((gi a0_p.hashes ((a0_p.hashes.length:Int) - (a0_p.turn - a1_done))).toNat:Int) = (a2_hash.toNat:Int))))
  else none
  else none
  else none
def peer_Take (a0_p:Per) (a1_n:Nte):Option (Per × Int) :=
  Option.bind (peer_May a0_p) fun x4 =>
  Option.bind (if (!x4) = true then
  some true
  else
  Option.bind (peer_MayNote a1_n) fun x49 =>
  some (!x49)) fun b7 =>
  if ((b7 = true) ∨ (¬ a1_n.dst = a0_p.id)) ∨ (a0_p.players < a1_n.frm) then
  some ((⟨0,0,0,0,0,[],[],[],[],[],false⟩:Per),1)
  else
  if I64 (a0_p.turn + 16) then
  if (a0_p.turn + 16) < a1_n.input.turn then
  some ((⟨0,0,0,0,0,[],[],[],[],[],false⟩:Per),4)
  else
  Option.bind (peer_Own a0_p) fun x15 =>
  if I64 (a1_n.frm - 1) then
  if 0 ≤ (a1_n.frm - 1)∧(a1_n.frm - 1) < (x15.has.length:Int) then
  if I64 ((gi x15.has (a1_n.frm - 1)) + 1) then
  Option.bind (α:=List Int × List Inp) (if a1_n.input.turn = ((gi x15.has (a1_n.frm - 1)) + 1) then
  Option.bind (turns_In x15.inputs a1_n.input) fun x42 =>
  if I64 (a1_n.frm - 1) then
  if 0 ≤ (a1_n.frm - 1)∧(a1_n.frm - 1) < (x15.has.length:Int) then
  if I64 ((gi x15.has (a1_n.frm - 1)) + 1) then
  if 0 ≤ (a1_n.frm - 1)∧(a1_n.frm - 1) < (x15.has.length:Int) then
  some ((si x15.has (a1_n.frm - 1) ((gi x15.has (a1_n.frm - 1)) + 1)),x42.1)
  else none
  else none
  else none
  else none
  else
  some (x15.has,x15.inputs)) fun (v27,v28) =>
  Option.bind (peer_acked (⟨x15.id,x15.players,x15.delay,x15.turn,x15.said,x15.mine,v28,v27,x15.acked,x15.hashes,x15.split⟩:Per) a1_n.frm a1_n.hav) fun x30 =>
  Option.bind (if x30.split = true then
  some true
  else
  Option.bind (peer_split x30 a1_n.don a1_n.hash) fun x40 =>
  some x40) fun b38 =>
  some ((⟨x30.id,x30.players,x30.delay,x30.turn,x30.said,x30.mine,x30.inputs,x30.has,x30.acked,x30.hashes,b38⟩:Per),0)
  else none
  else none
  else none
  else none
end Go.Proofs.YtmngdgclldkcfaaGreat
set_option linter.unusedVariables false
set_option linter.unusedSimpArgs false
set_option maxRecDepth 20000
set_option maxHeartbeats 4000000
namespace Go.Proofs.YtmngdgclldkcfaaGreat
open Go.Vg
open Enc (R)
theorem ent230:Ent Tryz.prog 230:=⟨_,_,Tryz.func230,by kernel_rfl,rfl⟩
theorem ent231:Ent Tryz.prog 231:=⟨_,_,Tryz.func231,by kernel_rfl,rfl⟩
theorem ent232:Ent Tryz.prog 232:=⟨_,_,Tryz.func232,by kernel_rfl,rfl⟩
theorem ent273:Ent Tryz.prog 273:=⟨_,_,Tryz.func273,by kernel_rfl,rfl⟩
theorem ent274:Ent Tryz.prog 274:=⟨_,_,Tryz.func274,by kernel_rfl,rfl⟩
theorem ent275:Ent Tryz.prog 275:=⟨_,_,Tryz.func275,by kernel_rfl,rfl⟩
theorem ent276:Ent Tryz.prog 276:=⟨_,_,Tryz.func276,by kernel_rfl,rfl⟩
theorem ent277:Ent Tryz.prog 277:=⟨_,_,Tryz.func277,by kernel_rfl,rfl⟩
theorem ent309:Ent Tryz.prog 309:=⟨_,_,Tryz.func309,by kernel_rfl,rfl⟩
theorem fd54_3:fdOff Tryz.prog 54 3 = some 3:=by kernel_rfl
theorem sl356:slTy Tryz.prog 356 = some (2,1,8):=by kernel_rfl
theorem u8_5:Tryz.prog.underlying 5 = some (.int .u8):=by kernel_rfl
theorem us5:(Tryz.prog.underlying 5).isSome = true:=by kernel_rfl
theorem zr2:zeroOf Tryz.prog 2 = some (.int .i64 0):=by kernel_rfl
theorem zr22:zeroOf Tryz.prog 22 = some (.slice none 0 0):=by kernel_rfl
def wire_Put (a0_b:List UInt8) (a1_n:Int):Option (List UInt8) :=
  Option.bind (α:=Int × List UInt8) (loop (σ:=Int × List UInt8) (β:=Int × List UInt8) (fun (v8,l9) =>
  if 128 ≤ v8 then
  if l9.length < 1099511627776 then
  if 0 ≤ (7:Int)∧(7:Int) < 64 then
  some (St.next ((v8 / 2 ^ (7:Int).toNat),(l9 ++ [((UInt8.ofNat (v8 % 256).toNat) ||| (128:UInt8))])))
  else none
  else none
  else
  some (St.done (v8,l9))) (a1_n,a0_b)) fun (v2,v3) =>
  if v3.length < 1099511627776 then
  some (v3 ++ [(UInt8.ofNat (v2 % 256).toNat)])
  else none
def wire_Int (a0_n:Int):Option (List UInt8 × Int) :=
  if (a0_n < (-4611686018427387904)) ∨ (4611686018427387904 ≤ a0_n) then
  some ([],2)
  else
  if a0_n < 0 then
  if I64 ((-2) * a0_n) then
  if I64 (((-2) * a0_n) - 1) then
  Option.bind (wire_Put [] (((-2) * a0_n) - 1)) fun x7 =>
  some (x7,0)
  else none
  else none
  else
  if I64 (2 * a0_n) then
  Option.bind (wire_Put [] (2 * a0_n)) fun x10 =>
  some (x10,0)
  else none
def wire_Raw (a0_b:List UInt8):Option (List UInt8 × Int) :=
  if 1048576 < (a0_b.length:Int) then
  some ([],2)
  else
  Option.bind (wire_Put [] (a0_b.length:Int)) fun x2 =>
  if x2.length + a0_b.length < 1099511627776 then
  some ((x2 ++ a0_b),0)
  else none
def fnv_Start:Option UInt64 :=
  some (14695981039346656037:UInt64)
def fnv_Sum (a0_s:UInt64) (a1_b:List UInt8):Option UInt64 :=
  Option.bind (α:=UInt64) (loop (σ:=UInt64 × Int) (β:=UInt64) (fun (v3,v4) =>
  if v4 < (a1_b.length:Int) then
  if 0 ≤ v4∧v4 < (a1_b.length:Int) then
  if I64 (v4 + 1) then
  some (St.next (((v3 ^^^ ((gi a1_b v4).toUInt64)) * (1099511628211:UInt64)),(v4 + 1)))
  else none
  else none
  else
  some (St.done v3)) (a0_s,0)) fun v2 =>
  some v2
def fnv_Bytes (a0_s:UInt64):Option (List UInt8) :=
  Option.bind (α:=List UInt8) (loop (σ:=UInt64 × List UInt8 × Int) (β:=List UInt8) (fun (v4,l5,v7) =>
  if v7 < 8 then
  if l5.length < 1099511627776 then
  if I64 (v7 + 1) then
  some (St.next ((v4 >>> (8:UInt64)),(l5 ++ [(UInt8.ofNat ((v4.toNat:Int) % 256).toNat)]),(v7 + 1)))
  else none
  else none
  else
  some (St.done l5)) (a0_s,[],0)) fun v2 =>
  some v2
def mapcode_Lay (a0_g:Grd):Option (List UInt8) :=
  Option.bind (wire_Put ([(84:UInt8),(71:UInt8)]:List UInt8) a0_g.w) fun x3 =>
  Option.bind (wire_Put x3 a0_g.h) fun x6 =>
  if x6.length + a0_g.tiles.length < 1099511627776 then
  Option.bind (fnv_Start) fun x10 =>
  Option.bind (fnv_Sum x10 (x6 ++ a0_g.tiles)) fun x11 =>
  Option.bind (fnv_Bytes x11) fun x12 =>
  if (x6 ++ a0_g.tiles).length + x12.length < 1099511627776 then
  some ((x6 ++ a0_g.tiles) ++ x12)
  else none
  else none
def image_lay_1 (a0_l:List Int) (cv0:List UInt8):Option (List UInt8) :=
  Option.bind (α:=List UInt8) (loop (σ:=Int × List UInt8) (β:=List UInt8) (fun (v4,l5) =>
  if v4 < (a0_l.length:Int) then
  if 0 ≤ v4∧v4 < (a0_l.length:Int) then
  Option.bind (wire_Put l5 (gi a0_l v4)) fun x12 =>
  if I64 (v4 + 1) then
  some (St.next ((v4 + 1),x12))
  else none
  else none
  else
  some (St.done l5)) (0,cv0)) fun v2 =>
  some v2
def image_lay (a0_w:Wld):Option (List UInt8) :=
  Option.bind (image_lay_1 [a0_w.tick,a0_w.players,a0_w.nextid] ([(84:UInt8),(87:UInt8)]:List UInt8)) fun x5 =>
  Option.bind (mapcode_Lay a0_w.g) fun x7 =>
  Option.bind (wire_Raw x7) fun x9 =>
  if x5.length + x9.1.length < 1099511627776 then
  Option.bind (image_lay_1 [(a0_w.bs.length:Int)] (x5 ++ x9.1)) fun x14 =>
  Option.bind (α:=List UInt8) (loop (σ:=Int × List UInt8) (β:=List UInt8) (fun (v59,l60) =>
  if v59 < (a0_w.bs.length:Int) then
  if 0 ≤ v59∧v59 < (a0_w.bs.length:Int) then
  Option.bind (image_lay_1 [(gi a0_w.bs v59).id,(gi a0_w.bs v59).owner,(gi a0_w.bs v59).x,(gi a0_w.bs v59).y,(gi a0_w.bs v59).w,(gi a0_w.bs v59).h] l60) fun x69 =>
  if I64 (v59 + 1) then
  some (St.next ((v59 + 1),x69))
  else none
  else none
  else
  some (St.done l60)) (0,x14)) fun v17 =>
  Option.bind (image_lay_1 [(a0_w.us.length:Int)] v17) fun x20 =>
  Option.bind (α:=List UInt8) (loop (σ:=Int × List UInt8) (β:=List UInt8) (fun (v25,l26) =>
  if v25 < (a0_w.us.length:Int) then
  if 0 ≤ v25∧v25 < (a0_w.us.length:Int) then
  Option.bind (image_lay_1 [(gi a0_w.us v25).id,(gi a0_w.us v25).owner,(gi a0_w.us v25).kind] l26) fun x35 =>
  Option.bind (α:=List UInt8) (loop (σ:=Int × List UInt8) (β:=List UInt8) (fun (v47,l48) =>
  if v47 < (2:Int) then
  if 0 ≤ v47∧v47 < (2:Int) then
  Option.bind (wire_Int (gi [((gi a0_w.us v25).pos).x,((gi a0_w.us v25).pos).y] v47)) fun x54 =>
  if l48.length + x54.1.length < 1099511627776 then
  if I64 (v47 + 1) then
  some (St.next ((v47 + 1),(l48 ++ x54.1)))
  else none
  else none
  else none
  else
  some (St.done l48)) (0,x35)) fun v39 =>
  if I64 (((gi a0_w.us v25).goal) + 1) then
  if I64 (((gi a0_w.us v25).next) + 1) then
  Option.bind (image_lay_1 [(((gi a0_w.us v25).goal) + 1),(((gi a0_w.us v25).next) + 1),(gi a0_w.us v25).stuck,(gi a0_w.us v25).inn,(gi a0_w.us v25).state] v39) fun x44 =>
  if I64 (v25 + 1) then
  some (St.next ((v25 + 1),x44))
  else none
  else none
  else none
  else none
  else
  some (St.done l26)) (0,x20)) fun v23 =>
  some v23
  else none
def image_Sum (a0_w:Wld):Option UInt64 :=
  Option.bind (fnv_Start) fun x2 =>
  Option.bind (image_lay a0_w) fun x3 =>
  Option.bind (fnv_Sum x2 x3) fun x5 =>
  some x5
end Go.Proofs.YtmngdgclldkcfaaGreat
