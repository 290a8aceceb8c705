/-
  Texts of one's own, joined: PGX UP UQ UR U0.
-/
import Derived.Test.YtmngdgclldkcfaaGreatJ22
import Derived.Test.YtmngdgclldkcfaaGreatJ5
import Derived.Lib.Small
set_option linter.unusedVariables false
namespace Go.Proofs.YtmngdgclldkcfaaGreat
open Go.Vg
def throngref0_EqCommand (a0_a:Cmd) (a1_b:Cmd):Option Bool :=
  Option.bind (if (((a0_a.player = a1_b.player)∧(a0_a.seq = a1_b.seq))∧(a0_a.kind = a1_b.kind))∧(a0_a.n = a1_b.n) then
  Option.bind (throngref0_EqNumbers a0_a.units a1_b.units) fun x21 =>
  some x21
  else
  some false) fun b11 =>
  some (decide (((((b11 = true)∧(a0_a.tile = a1_b.tile))∧(a0_a.w = a1_b.w))∧(a0_a.h = a1_b.h))∧(a0_a.pos = a1_b.pos)))
def throngref0_Rising (a0_l:List Int):Option Bool :=
  Option.bind (α:=Ex (Unit) (Bool)) (loop (σ:=Int) (β:=Ex (Unit) (Bool)) (fun v2 =>
  if v2 < (a0_l.length:Int) then
  if 0 ≤ v2∧v2 < (a0_l.length:Int) then
  if I64 (v2 - 1) then
  if 0 ≤ (v2 - 1)∧(v2 - 1) < (a0_l.length:Int) then
  if (gi a0_l v2) ≤ (gi a0_l (v2 - 1)) then
  some (St.done (Ex.up false))
  else
  if I64 (v2 + 1) then
  some (St.next (v2 + 1))
  else none
  else none
  else none
  else none
  else
  some (St.done (Ex.go ()))) 1) fun x=>x.then fun _ =>
  some true
def throngref0_Between (a0_l:List Int) (a1_from:Int) (a2_to:Int):Option Bool :=
  Option.bind (α:=Ex (Unit) (Bool)) (loop (σ:=Int) (β:=Ex (Unit) (Bool)) (fun v2 =>
  if v2 < (a0_l.length:Int) then
  if 0 ≤ v2∧v2 < (a0_l.length:Int) then
  if ¬ ((gi a0_l v2) < a1_from)→(0 ≤ v2∧v2 < (a0_l.length:Int)) then
  if ((gi a0_l v2) < a1_from) ∨ (a2_to < (gi a0_l v2)) then
  some (St.done (Ex.up false))
  else
  if I64 (v2 + 1) then
  some (St.next (v2 + 1))
  else none
  else none
  else none
  else
  some (St.done (Ex.go ()))) 0) fun x=>x.then fun _ =>
  some true
def throngref17_May (a0_p:Vec) (a1_r:Int):Option Bool :=
  some (decide ((((((0 ≤ a1_r)∧(a1_r ≤ 262144))∧((-1099511627776) ≤ a0_p.x))∧(a0_p.x ≤ 1099511627776))∧((-1099511627776) ≤ a0_p.y))∧(a0_p.y ≤ 1099511627776)))
def throngref21_ids (a0_l:List Int):Option Bool :=
  Option.bind (if (1 ≤ (a0_l.length:Int))∧((a0_l.length:Int) ≤ 64) then
  Option.bind (throngref0_Rising a0_l) fun x12 =>
  some x12
  else
  some false) fun b5 =>
  Option.bind (if b5 = true then
  Option.bind (throngref0_Between a0_l 1 1099511627776) fun x10 =>
  some x10
  else
  some false) fun b8 =>
  some b8
def throngref21_tile (a0_t:Int):Option Bool :=
  some (decide ((0 ≤ a0_t)∧(a0_t < 16384)))
def throngref21_id (a0_n:Int):Option Bool :=
  some (decide ((1 ≤ a0_n)∧(a0_n ≤ 1099511627776)))
def throngref21_Command (a0_c:Cmd):Option Bool :=
  Option.bind (if (1 ≤ a0_c.player)∧(a0_c.player ≤ 8) then
  Option.bind (throngref0_Num a0_c.seq 1099511627776) fun x114 =>
  some x114
  else
  some false) fun b7 =>
  if a0_c.kind = 1 then
  Option.bind (if b7 = true then
  Option.bind (throngref0_Num a0_c.n 3) fun x23 =>
  some x23
  else
  some false) fun b11 =>
  Option.bind (if b11 = true then
  Option.bind (throngref17_May a0_c.pos 0) fun x21 =>
  some x21
  else
  some false) fun b14 =>
  Option.bind (if b14 = true then
  Option.bind (throngref0_EqCommand (⟨a0_c.player,a0_c.seq,a0_c.kind,a0_c.n,[],0,0,0,a0_c.pos⟩:Cmd) a0_c) fun x19 =>
  some x19
  else
  some false) fun b17 =>
  some b17
  else
  if a0_c.kind = 2 then
  Option.bind (if b7 = true then
  Option.bind (throngref21_ids a0_c.units) fun x39 =>
  some x39
  else
  some false) fun b27 =>
  Option.bind (if b27 = true then
  Option.bind (throngref21_tile a0_c.tile) fun x37 =>
  some x37
  else
  some false) fun b30 =>
  Option.bind (if b30 = true then
  Option.bind (throngref0_EqCommand (⟨a0_c.player,a0_c.seq,a0_c.kind,0,a0_c.units,a0_c.tile,0,0,(⟨0,0⟩:Vec)⟩:Cmd) a0_c) fun x35 =>
  some x35
  else
  some false) fun b33 =>
  some b33
  else
  if a0_c.kind = 3 then
  Option.bind (if b7 = true then
  Option.bind (throngref21_ids a0_c.units) fun x50 =>
  some x50
  else
  some false) fun b43 =>
  Option.bind (if b43 = true then
  Option.bind (throngref0_EqCommand (⟨a0_c.player,a0_c.seq,a0_c.kind,0,a0_c.units,0,0,0,(⟨0,0⟩:Vec)⟩:Cmd) a0_c) fun x48 =>
  some x48
  else
  some false) fun b46 =>
  some b46
  else
  if a0_c.kind = 4 then
  Option.bind (if b7 = true then
  Option.bind (throngref21_tile a0_c.tile) fun x69 =>
  some x69
  else
  some false) fun b54 =>
  Option.bind (if ((((b54 = true)∧(1 ≤ a0_c.w))∧(a0_c.w ≤ 4))∧(1 ≤ a0_c.h))∧(a0_c.h ≤ 4) then
  Option.bind (throngref0_EqCommand (⟨a0_c.player,a0_c.seq,a0_c.kind,0,[],a0_c.tile,a0_c.w,a0_c.h,(⟨0,0⟩:Vec)⟩:Cmd) a0_c) fun x67 =>
  some x67
  else
  some false) fun b65 =>
  some b65
  else
  if a0_c.kind = 5 then
  Option.bind (if b7 = true then
  Option.bind (throngref21_id a0_c.n) fun x80 =>
  some x80
  else
  some false) fun b73 =>
  Option.bind (if b73 = true then
  Option.bind (throngref0_EqCommand (⟨a0_c.player,a0_c.seq,a0_c.kind,a0_c.n,[],0,0,0,(⟨0,0⟩:Vec)⟩:Cmd) a0_c) fun x78 =>
  some x78
  else
  some false) fun b76 =>
  some b76
  else
  if a0_c.kind = 6 then
  Option.bind (if b7 = true then
  Option.bind (throngref21_ids a0_c.units) fun x96 =>
  some x96
  else
  some false) fun b84 =>
  Option.bind (if b84 = true then
  Option.bind (throngref21_id a0_c.n) fun x94 =>
  some x94
  else
  some false) fun b87 =>
  Option.bind (if b87 = true then
  Option.bind (throngref0_EqCommand (⟨a0_c.player,a0_c.seq,a0_c.kind,a0_c.n,a0_c.units,0,0,0,(⟨0,0⟩:Vec)⟩:Cmd) a0_c) fun x92 =>
  some x92
  else
  some false) fun b90 =>
  some b90
  else
  if a0_c.kind = 7 then
  Option.bind (if b7 = true then
  Option.bind (throngref21_id a0_c.n) fun x112 =>
  some x112
  else
  some false) fun b100 =>
  Option.bind (if b100 = true then
  Option.bind (throngref21_tile a0_c.tile) fun x110 =>
  some x110
  else
  some false) fun b103 =>
  Option.bind (if b103 = true then
  Option.bind (throngref0_EqCommand (⟨a0_c.player,a0_c.seq,a0_c.kind,a0_c.n,[],a0_c.tile,0,0,(⟨0,0⟩:Vec)⟩:Cmd) a0_c) fun x108 =>
  some x108
  else
  some false) fun b106 =>
  some b106
  else
  some false
def throngref27_least (a0_l:List Int):Option Int :=
  if 0 ≤ (0:Int)∧(0:Int) < (a0_l.length:Int) then
  Option.bind (α:=Int) (loop (σ:=Int × Int) (β:=Int) (fun (v6,v7) =>
  if v7 < (a0_l.length:Int) then
  if 0 ≤ v7∧v7 < (a0_l.length:Int) then
  if I64 (v7 + 1) then
  some (St.next ((min v6 (gi a0_l v7)),(v7 + 1)))
  else none
  else none
  else
  some (St.done v6)) ((gi a0_l (0:Int)),1)) fun v5 =>
  some v5
  else none
end Go.Proofs.YtmngdgclldkcfaaGreat
set_option linter.unusedVariables false
set_option linter.unusedSimpArgs false
namespace Go.Proofs.YtmngdgclldkcfaaGreat
open Go.Vg Go
def orI (x y:Int):Int:=if x = 0 then y else x
theorem orI_lt (a b c d:Int):orI (Lib.compareInt a c) (Lib.compareInt b d) < 0 ↔ (a < c ∨ (a = c∧b < d)):=by
 unfold orI Lib.compareInt
 by_cases h1:a < c
 ·simp [h1]
 ·by_cases h2:c < a
  ·simp [h1,h2]; omega
  ·have h3:a = c:=by omega
   subst h3
   by_cases h4:b < d
   ·simp [h4]
   ·by_cases h5:d < b <;> simp [h4,h5]
def InLt (a b:Inp):Prop:=a.turn < b.turn ∨ (a.turn = b.turn∧a.player < b.player)
instance (a b:Inp):Decidable (InLt a b):=by unfold InLt; exact inferInstance
def CmdS (c:Cmd):Prop:=c.units.length ≤ 1000000
def InpS (i:Inp):Prop:=i.commands.length ≤ 1000000∧∀ c ∈ i.commands,CmdS c
def InpsS (l:List Inp):Prop:=l.length ≤ 1000000∧∀ i ∈ l,InpS i
instance (c:Cmd):Decidable (CmdS c):=by unfold CmdS; exact inferInstance
instance (i:Inp):Decidable (InpS i):=by unfold InpS; exact inferInstance
instance (l:List Inp):Decidable (InpsS l):=by unfold InpsS; exact inferInstance
section
variable {α:Type} [Inhabited α]
def copyBF (f:α→Option α) (l:List α):Option (List α) :=
  Option.bind (α:=List α) (loop (σ:=List α × Int) (β:=List α) (fun (l4,v6) =>
  if v6 < (l.length:Int) then
  if 0 ≤ v6∧v6 < (l.length:Int) then
  Option.bind (f (gi l v6)) fun x18 =>
  if l4.length + 1 < 1099511627776 then
  if I64 (v6 + 1) then
  some (St.next ((l4 ++ ([x18]:List α)),(v6 + 1)))
  else none
  else none
  else none
  else
  some (St.done l4)) ([],0)) fun v2 =>
  some v2
theorem copyBF_eq {f:α→Option α} {l:List α} (h:l.length < 1099511627775) (hf:∀ x ∈ l,f x = some x):copyBF f l = some l:=by
 unfold copyBF
 refine Ok.eq (Ok.bind (R:=fun x=>x = l) (Ok.loop (fun z:List α × Int=>0 ≤ z.2∧z.2 ≤ l.length∧z.1 = l.take z.2.toNat) (fun z=>(l.length - z.2).toNat) ⟨by simp,by simp,by simp⟩ (by unfold FUEL; simp; omega) ?_) (fun x hx=>Ok.ret hx))
 rintro ⟨m,i⟩ ⟨h0,h1,hq⟩
 try dsimp only at h0 h1 hq ⊢
 subst hq
 refine Ok.ite (fun hlt=>?_) (fun hlt=>Ok.ret ?_)
 ·refine Ok.gd ⟨h0,hlt⟩ ?_
  rw [hf _ (gi_mem ⟨h0,hlt⟩),bsome]
  refine Ok.gd (by rw [List.length_take]; omega) (Ok.gd (by unfold I64; omega) (Ok.ret ⟨⟨by show 0 ≤ i + 1; omega,by show i + 1 ≤ _; omega,?_⟩,by show (l.length - (i + 1)).toNat < _; omega⟩))
  show _ = l.take (i + 1).toNat
  rw [take_nextV ⟨h0,hlt⟩]
 ·have:i = l.length:=by omega
  subst this
  simp
end
theorem bifb (b y:Bool) {β:Type} (k:Bool→Option β):(Option.bind (if b = true then Option.bind (some y) fun x=>some x else some false) k) = k (b && y):=by cases b <;> rfl
theorem bifp {p:Prop} [Decidable p] (y:Bool) {β:Type} (k:Bool→Option β):(Option.bind (if p then Option.bind (some y) fun x=>some x else some false) k) = k (decide p && y):=by
 by_cases h:p
 ·rw [if_pos h,decide_eq_true h]; rfl
 ·rw [if_neg h,decide_eq_false h]; rfl
theorem bifc (b y:Bool) {β:Type} (k:Bool→Option β):(Option.bind (if b = true then some y else some false) k) = k (b && y):=by cases b <;> rfl
theorem bifq {p:Prop} [Decidable p] (y:Bool) {β:Type} (k:Bool→Option β):(Option.bind (if p then some y else some false) k) = k (decide p && y):=by
 by_cases h:p
 ·rw [if_pos h,decide_eq_true h]; rfl
 ·rw [if_neg h,decide_eq_false h]; rfl
theorem eqN_p {a b:List Int} (h:a.length ≤ 9223372036854775807):throngref0_EqNumbers a b = some (decide (a = b)):=eqF_eq h
theorem ownC_p {c:Cmd} (h:CmdS c):command_Own c = some c:=by
 unfold command_Own slices_Clone_Int
 rw [if_pos (by unfold CmdS at h; omega)]; rfl
theorem ownCs_p {l:List Cmd} (hl:l.length ≤ 1000000) (h:∀ c ∈ l,CmdS c):command_OwnAll l = some l:=copyBF_eq (f:=command_Own) (by omega) fun c hc=>ownC_p (h c hc)
theorem ownI_p {i:Inp} (h:InpS i):turns_Own i = some i:=by
 unfold turns_Own
 rw [ownCs_p h.1 h.2]; rfl
theorem ownIs_p {l:List Inp} (h:InpsS l):turns_OwnAll l = some l:=copyBF_eq (f:=turns_Own) (by have:=h.1; omega) fun c hc=>ownI_p (h.2 c hc)
theorem eqC_p {a b:Cmd} (h:CmdS a):throngref0_EqCommand a b = some (decide (a = b)):=by
 unfold throngref0_EqCommand
 rw [eqN_p (by unfold CmdS at h; omega),bifp,Option.some.injEq,decide_eq_decide]
 simp only [Bool.and_eq_true,decide_eq_true_eq]
 constructor
 ·rintro ⟨⟨⟨⟨⟨⟨⟨⟨h1,h2⟩,h3⟩,h4⟩,h5⟩,h6⟩,h7⟩,h8⟩,h9⟩
  cases a; cases b; simp_all
 ·rintro rfl; simp
def UnitsOk (l:List Int):Prop:=((1 ≤ (l.length:Int))∧((l.length:Int) ≤ 64))∧∀ v:Int,0 ≤ v→v < l.length→(1 ≤ gi l v∧gi l v ≤ 1099511627776)∧(0 < v→gi l (v - 1) < gi l v)
theorem units_b {l:List Int} (hl:l.length ≤ 1000000):Bo (command_units l) (UnitsOk l):=by
 unfold command_units
 refine Ok.bind (scanOk (a:=0) (n:=l.length) (fun v=>(1 ≤ gi l v∧gi l v ≤ 1099511627776)∧(0 < v→gi l (v - 1) < gi l v)) (fun r=>r = false∧¬ UnitsOk l) (by omega) (fun v v0 v1 _=>?_) (fun v v0 v1=>by rw [if_neg (by omega)])) ?_
 ·rw [if_pos v1]
  refine Ok.gd ⟨v0,v1⟩ (Ok.gd (fun _ _=>by unfold I64; omega) (Ok.gd (fun _ h=>⟨by omega,by omega⟩) (Ok.ite (fun h=>Ok.ret ⟨rfl,fun hu=>?_⟩) (fun h=>Ok.gd (by unfold I64; omega) (Ok.ret ⟨rfl,?_⟩)))))
  ·have:=hu.2 v v0 v1
   rcases h with h | h
   ·omega
   ·have:=this.2 h.1; omega
  ·refine ⟨by omega,fun hv=>?_⟩
   apply Classical.byContradiction; intro hc
   exact h (.inr ⟨hv,by omega⟩)
 ·rintro (_ | _) hx
  ·exact Bo.dec ⟨fun h=>⟨h,hx⟩,fun h=>h.1⟩
  ·exact Ok.ret ⟨fun e=>(by rw [hx.1] at e; cases e),fun h=>absurd h hx.2⟩
theorem ids_b {l:List Int} (hl:l.length ≤ 1000000):Bo (throngref21_ids l) (UnitsOk l):=by
 have hr:Bo (throngref0_Rising l) (∀ v:Int,1 ≤ v→v < l.length→gi l (v - 1) < gi l v):=by
  unfold throngref0_Rising
  refine scanBo (a:=1) (n:=l.length) (fun v=>gi l (v - 1) < gi l v) (by omega) (fun v v0 v1 _=>?_) (fun v v0 v1=>by rw [if_neg (by omega)])
  rw [if_pos v1]
  exact Ok.gd ⟨by omega,v1⟩ (Ok.gd (by unfold I64; omega) (Ok.gd ⟨by omega,by omega⟩ (Ok.ite (fun h=>Ok.ret ⟨rfl,by omega⟩) (fun h=>Ok.gd (by unfold I64; omega) (Ok.ret ⟨rfl,by omega⟩)))))
 have hb:Bo (throngref0_Between l 1 1099511627776) (∀ v:Int,0 ≤ v→v < l.length→1 ≤ gi l v∧gi l v ≤ 1099511627776):=by
  unfold throngref0_Between
  refine scanBo (a:=0) (n:=l.length) (fun v=>1 ≤ gi l v∧gi l v ≤ 1099511627776) (by omega) (fun v v0 v1 _=>?_) (fun v v0 v1=>by rw [if_neg (by omega)])
  rw [if_pos v1]
  exact Ok.gd ⟨by omega,v1⟩ (Ok.gd (fun _=>⟨by omega,by omega⟩) (Ok.ite (fun h=>Ok.ret ⟨rfl,by omega⟩) (fun h=>Ok.gd (by unfold I64; omega) (Ok.ret ⟨rfl,by omega⟩))))
 obtain ⟨r,er,hr⟩:=hr
 obtain ⟨b,eb,hb⟩:=hb
 unfold throngref21_ids
 rw [er,eb,bifp,bifb]
 refine Ok.ret ?_
 rw [Bool.and_eq_true,Bool.and_eq_true,decide_eq_true_eq,hr,hb]
 constructor
 ·rintro ⟨⟨h1,h2⟩,h3⟩
  exact ⟨h1,fun v v0 v1=>⟨h3 v v0 v1,fun hv=>h2 v (by omega) v1⟩⟩
 ·rintro ⟨h1,h2⟩
  exact ⟨⟨h1,fun v v0 v1=>(h2 v (by omega) v1).2 (by omega)⟩,fun v v0 v1=>(h2 v v0 v1).1⟩
theorem mayC_same {c:Cmd} (h:CmdS c):∃ b,command_May c = some b∧throngref21_Command c = some b:=by
 obtain ⟨u,hu,hut⟩:=units_b h
 obtain ⟨d,hd,hdt⟩:=ids_b h
 have hud:u = d:=by
  cases u <;> cases d <;> simp_all
 subst hud
 unfold command_May command_only throngref21_Command
 have e0:∀ a:Cmd,CmdS a→throngref0_EqCommand a c = some (decide (a = c)):=fun a ha=>eqC_p ha
 have z0:∀ p s k n t w hh q,CmdS (⟨p,s,k,n,[],t,w,hh,q⟩:Cmd):=fun _ _ _ _ _ _ _ _=>by show (0:Nat) ≤ 1000000; omega
 have z1:∀ p s k n t w hh q,CmdS (⟨p,s,k,n,c.units,t,w,hh,q⟩:Cmd):=fun _ _ _ _ _ _ _ _=>h
 have p0:∀ (p:Vec) (r:Int),throngref17_May p r = some (decide ((((((0 ≤ r)∧(r ≤ 262144))∧((-1099511627776) ≤ p.x))∧(p.x ≤ 1099511627776))∧((-1099511627776) ≤ p.y))∧(p.y ≤ 1099511627776))):=fun _ _=>rfl
 have fin:∀ {x y:Bool},(x = true ↔ y = true)→∃ b,some x = some b∧some y = some b:=fun {x y} h=>⟨x,rfl,by rw [Bool.eq_iff_iff.2 h]⟩
 have hu0:∀ l:List Int,((([]:List Int).length:Int) = (l.length:Int)) ↔ [] = l:=fun l=>by
  cases l with
  | nil=>simp
  | cons a l=>simp; omega
 by_cases k1:c.kind = 1
 ·simp only [k1,if_true,reduceIte,kind_May,disc_Place,command_within,throngref0_Num,p0,throngref21_tile,throngref21_id,hu,hd,e0 _ (z0 _ _ _ _ _ _ _ _),e0 _ (z1 _ _ _ _ _ _ _ _),bsome,bifc,bifq]
  refine fin ?_
  cases c
  simp only [Cmd.mk.injEq,Bool.and_eq_true,decide_eq_true_eq,hu0] at k1 ⊢
  subst k1
  constructor
  ·rintro ⟨⟨⟨⟨⟨⟨h1,h2⟩,h3⟩,h4⟩,h5⟩,h6⟩,h7⟩
   subst_vars
   simp only [true_and,and_true] at *
   first | omega | (simp_all; done) | (simp_all; omega)
  ·intro h
   clear hu hd e0 z0 z1 p0 hut hdt fin
   simp only [eq_comm (a:=(0:Int)),eq_comm (a:=(⟨0,0⟩:Vec)),eq_comm (a:=([]:List Int))] at h ⊢
   first | (simp_all; done) | (simp_all; omega)
 by_cases k2:c.kind = 2
 ·simp only [k2,if_true,reduceIte,kind_May,disc_Place,command_within,throngref0_Num,p0,throngref21_tile,throngref21_id,hu,hd,e0 _ (z0 _ _ _ _ _ _ _ _),e0 _ (z1 _ _ _ _ _ _ _ _),bsome,bifc,bifq]
  refine fin ?_
  cases c
  simp only [Cmd.mk.injEq,Bool.and_eq_true,decide_eq_true_eq,hu0] at k2 ⊢
  subst k2
  constructor
  ·rintro ⟨⟨⟨⟨⟨⟨h1,h2⟩,h3⟩,h4⟩,h5⟩,h6⟩,h7⟩
   subst_vars
   simp only [true_and,and_true] at *
   first | omega | (simp_all; done) | (simp_all; omega)
  ·intro h
   clear hu hd e0 z0 z1 p0 hut hdt fin
   simp only [eq_comm (a:=(0:Int)),eq_comm (a:=(⟨0,0⟩:Vec)),eq_comm (a:=([]:List Int))] at h ⊢
   first | (simp_all; done) | (simp_all; omega)
 by_cases k3:c.kind = 3
 ·simp only [k3,if_true,reduceIte,kind_May,disc_Place,command_within,throngref0_Num,p0,throngref21_tile,throngref21_id,hu,hd,e0 _ (z0 _ _ _ _ _ _ _ _),e0 _ (z1 _ _ _ _ _ _ _ _),bsome,bifc,bifq]
  refine fin ?_
  cases c
  simp only [Cmd.mk.injEq,Bool.and_eq_true,decide_eq_true_eq,hu0] at k3 ⊢
  subst k3
  constructor
  ·rintro ⟨⟨⟨⟨⟨⟨h1,h2⟩,h3⟩,h4⟩,h5⟩,h6⟩,h7⟩
   subst_vars
   simp only [true_and,and_true] at *
   first | omega | (simp_all; done) | (simp_all; omega)
  ·intro h
   clear hu hd e0 z0 z1 p0 hut hdt fin
   simp only [eq_comm (a:=(0:Int)),eq_comm (a:=(⟨0,0⟩:Vec)),eq_comm (a:=([]:List Int))] at h ⊢
   first | (simp_all; done) | (simp_all; omega)
 by_cases k4:c.kind = 4
 ·simp only [k4,if_true,reduceIte,kind_May,disc_Place,command_within,throngref0_Num,p0,throngref21_tile,throngref21_id,hu,hd,e0 _ (z0 _ _ _ _ _ _ _ _),e0 _ (z1 _ _ _ _ _ _ _ _),bsome,bifc,bifq]
  refine fin ?_
  cases c
  simp only [Cmd.mk.injEq,Bool.and_eq_true,decide_eq_true_eq,hu0] at k4 ⊢
  subst k4
  constructor
  ·rintro ⟨⟨⟨⟨⟨⟨h1,h2⟩,h3⟩,h4⟩,h5⟩,h6⟩,h7⟩
   subst_vars
   simp only [true_and,and_true] at *
   first | omega | (simp_all; done) | (simp_all; omega)
  ·intro h
   clear hu hd e0 z0 z1 p0 hut hdt fin
   simp only [eq_comm (a:=(0:Int)),eq_comm (a:=(⟨0,0⟩:Vec)),eq_comm (a:=([]:List Int))] at h ⊢
   first | (simp_all; done) | (simp_all; omega)
 by_cases k5:c.kind = 5
 ·simp only [k5,if_true,reduceIte,kind_May,disc_Place,command_within,throngref0_Num,p0,throngref21_tile,throngref21_id,hu,hd,e0 _ (z0 _ _ _ _ _ _ _ _),e0 _ (z1 _ _ _ _ _ _ _ _),bsome,bifc,bifq]
  refine fin ?_
  cases c
  simp only [Cmd.mk.injEq,Bool.and_eq_true,decide_eq_true_eq,hu0] at k5 ⊢
  subst k5
  constructor
  ·rintro ⟨⟨⟨⟨⟨⟨h1,h2⟩,h3⟩,h4⟩,h5⟩,h6⟩,h7⟩
   subst_vars
   simp only [true_and,and_true] at *
   first | omega | (simp_all; done) | (simp_all; omega)
  ·intro h
   clear hu hd e0 z0 z1 p0 hut hdt fin
   simp only [eq_comm (a:=(0:Int)),eq_comm (a:=(⟨0,0⟩:Vec)),eq_comm (a:=([]:List Int))] at h ⊢
   first | (simp_all; done) | (simp_all; omega)
 by_cases k6:c.kind = 6
 ·simp only [k6,if_true,reduceIte,kind_May,disc_Place,command_within,throngref0_Num,p0,throngref21_tile,throngref21_id,hu,hd,e0 _ (z0 _ _ _ _ _ _ _ _),e0 _ (z1 _ _ _ _ _ _ _ _),bsome,bifc,bifq]
  refine fin ?_
  cases c
  simp only [Cmd.mk.injEq,Bool.and_eq_true,decide_eq_true_eq,hu0] at k6 ⊢
  subst k6
  constructor
  ·rintro ⟨⟨⟨⟨⟨⟨h1,h2⟩,h3⟩,h4⟩,h5⟩,h6⟩,h7⟩
   subst_vars
   simp only [true_and,and_true] at *
   first | omega | (simp_all; done) | (simp_all; omega)
  ·intro h
   clear hu hd e0 z0 z1 p0 hut hdt fin
   simp only [eq_comm (a:=(0:Int)),eq_comm (a:=(⟨0,0⟩:Vec)),eq_comm (a:=([]:List Int))] at h ⊢
   first | (simp_all; done) | (simp_all; omega)
 by_cases k7:c.kind = 7
 ·simp only [k7,if_true,reduceIte,kind_May,disc_Place,command_within,throngref0_Num,p0,throngref21_tile,throngref21_id,hu,hd,e0 _ (z0 _ _ _ _ _ _ _ _),e0 _ (z1 _ _ _ _ _ _ _ _),bsome,bifc,bifq]
  refine fin ?_
  cases c
  simp only [Cmd.mk.injEq,Bool.and_eq_true,decide_eq_true_eq,hu0] at k7 ⊢
  subst k7
  constructor
  ·rintro ⟨⟨⟨⟨⟨⟨h1,h2⟩,h3⟩,h4⟩,h5⟩,h6⟩,h7⟩
   subst_vars
   simp only [true_and,and_true] at *
   first | omega | (simp_all; done) | (simp_all; omega)
  ·intro h
   clear hu hd e0 z0 z1 p0 hut hdt fin
   simp only [eq_comm (a:=(0:Int)),eq_comm (a:=(⟨0,0⟩:Vec)),eq_comm (a:=([]:List Int))] at h ⊢
   first | (simp_all; done) | (simp_all; omega)
 ·simp only [k1,k2,k3,k4,k5,k6,k7,if_true,if_false,reduceIte,command_within,throngref0_Num,bsome,bifc,bifq]
  refine fin ?_
  simp
end Go.Proofs.YtmngdgclldkcfaaGreat
set_option linter.unusedVariables false
set_option linter.unusedSimpArgs false
namespace Go.Proofs.YtmngdgclldkcfaaGreat
open Go.Vg Go.Lib
def cmdOk (c:Cmd):Bool:=(command_May c).getD false
theorem mayC_p {c:Cmd} (h:CmdS c):command_May c = some (cmdOk c)∧throngref21_Command c = some (cmdOk c):=by
 obtain ⟨b,e1,e2⟩:=mayC_same h
 unfold cmdOk
 rw [e1,e2]; exact ⟨rfl,rfl⟩
def SaidOk (p:Int) (l:List Cmd):Prop:=(l.length:Int) ≤ 64∧∀ v:Int,0 ≤ v→v < l.length→(cmdOk (gi l v) = true∧(gi l v).player = p)∧(0 < v→(gi l (v - 1)).seq < (gi l v).seq)
theorem said_b {p:Int} {l:List Cmd} (hl:l.length ≤ 1000000) (hs:∀ c ∈ l,CmdS c):Bo (turns_Said p l) (SaidOk p l):=by
 unfold turns_Said
 refine Ok.bind (scanOk (a:=0) (n:=l.length) (fun v=>(cmdOk (gi l v) = true∧(gi l v).player = p)∧(0 < v→(gi l (v - 1)).seq < (gi l v).seq)) (fun r=>r = false∧¬ SaidOk p l) (by omega) (fun v v0 v1 _=>?_) (fun v v0 v1=>by rw [if_neg (by omega)])) ?_
 ·rw [if_pos v1]
  refine Ok.gd ⟨v0,v1⟩ ?_
  rw [(mayC_p (hs _ (gi_mem ⟨v0,v1⟩))).1,bsome]
  refine Ok.gd (fun _ _=>by unfold I64; omega) (Ok.gd (fun _ h=>⟨by omega,by omega⟩) (Ok.ite (fun h=>Ok.ret ⟨rfl,fun hu=>?_⟩) (fun h=>Ok.gd (by unfold I64; omega) (Ok.ret ⟨rfl,?_⟩))))
  ·have h2:=hu.2 v v0 v1
   rcases h with (h | h) | h
   ·rw [h2.1.1] at h; simp at h
   ·exact h h2.1.2
   ·have:=h2.2 h.1; omega
  ·refine ⟨⟨?_,?_⟩,fun hv=>?_⟩
   ·cases hc:cmdOk (gi l v) with
    | true=>rfl
    | false=>exact absurd (.inl (.inl (by rw [hc]; rfl))) h
   ·apply Classical.byContradiction; intro hc; exact h (.inl (.inr hc))
   ·apply Classical.byContradiction; intro hc; exact h (.inr ⟨hv,by omega⟩)
 ·rintro (_ | _) hx
  ·exact Bo.dec ⟨fun h=>⟨h,hx⟩,fun h=>h.1⟩
  ·exact Ok.ret ⟨fun e=>(by rw [hx.1] at e; cases e),fun h=>absurd h hx.2⟩
def InpOk (i:Inp):Prop:=((((0 ≤ i.turn)∧(i.turn ≤ 1099511627776))∧(1 ≤ i.player))∧(i.player ≤ 8))∧SaidOk i.player i.commands
theorem mayI_b {i:Inp} (h:InpS i):Bo (turns_May i) (InpOk i):=by
 obtain ⟨b,e,hb⟩:=said_b (p:=i.player) h.1 h.2
 unfold turns_May
 rw [e,bifp]
 refine Ok.ret ?_
 rw [Bool.and_eq_true,decide_eq_true_eq,hb]; rfl
theorem compare_p (x y:Int):cmp_Compare x y = some (Lib.compareInt x y):=by
 have hn:∀ z:Int,cmp_isNaN z = some false:=fun z=>by unfold cmp_isNaN; simp
 unfold cmp_Compare Lib.compareInt
 rw [hn,hn,bsome,bsome,if_neg (by simp),if_neg (by simp)]
 by_cases h1:x < y
 ·rw [if_pos h1,if_pos h1]
 ·rw [if_neg h1,if_neg h1]
  by_cases h2:y < x
  ·rw [if_pos h2,if_pos h2]
  ·rw [if_neg h2,if_neg h2]
theorem or_p (x y:Int):cmp_Or [x,y] = some (orI x y):=by
 unfold cmp_Or orI
 refine Ok.eq (Ok.bind (R:=fun r:Ex Unit Int=>r = if x = 0 then (if y = 0 then Ex.go () else Ex.up y) else Ex.up x) (Ok.loop (fun v:Int=>(v = 0) ∨ (v = 1∧x = 0) ∨ (v = 2∧x = 0∧y = 0)) (fun v=>(2 - v).toNat) (.inl rfl) (by unfold FUEL; simp) ?_) ?_)
 ·rintro v (rfl | ⟨rfl,hx⟩ | ⟨rfl,hx,hy⟩)
  ·rw [if_pos (by simp),if_pos (by simp)]
   show Ok (if ¬ x = 0 then _ else _) _
   refine Ok.ite (fun h=>Ok.ret ?_) (fun h=>Ok.gd (by unfold I64; omega) (Ok.ret ⟨.inr (.inl ⟨rfl,by omega⟩),by decide⟩))
   show Ex.up x = _
   rw [if_neg h]
  ·rw [if_pos (by simp),if_pos (by simp)]
   show Ok (if ¬ y = 0 then _ else _) _
   refine Ok.ite (fun h=>Ok.ret ?_) (fun h=>Ok.gd (by unfold I64; omega) (Ok.ret ⟨.inr (.inr ⟨rfl,hx,by omega⟩),by decide⟩))
   show Ex.up y = _
   rw [if_pos hx,if_neg h]
  ·rw [if_neg (by simp)]
   refine Ok.ret ?_
   show Ex.go () = _
   rw [if_pos hx,if_pos hy]
 ·rintro r rfl
  by_cases hx:x = 0
  ·by_cases hy:y = 0
   ·rw [if_pos hx,if_pos hy]; exact Ok.ret (by rw [if_pos hx,hy])
   ·rw [if_pos hx,if_neg hy]; exact Ok.ret (by rw [if_pos hx])
  ·rw [if_neg hx]; exact Ok.ret (by rw [if_neg hx])
def lessI (a b:Inp):Int:=orI (Lib.compareInt a.turn b.turn) (Lib.compareInt a.player b.player)
theorem less_p (a b:Inp):turns_less a b = some (lessI a b):=by
 unfold turns_less
 rw [compare_p,compare_p,bsome,bsome,or_p]; rfl
theorem lessI_lt (a b:Inp):lessI a b < 0 ↔ InLt a b:=orI_lt _ _ _ _
theorem lessI_eq (a b:Inp):lessI a b = 0 ↔ a.turn = b.turn∧a.player = b.player:=by
 unfold lessI orI Lib.compareInt
 by_cases h1:a.turn < b.turn
 ·simp [h1]; omega
 ·by_cases h2:b.turn < a.turn
  ·simp [h1,h2]; omega
  ·have h3:a.turn = b.turn:=by omega
   by_cases h4:a.player < b.player
   ·simp [h1,h2,h4]; omega
   ·by_cases h5:b.player < a.player
    ·simp [h1,h2,h4,h5]; omega
    ·simp [h1,h2,h4,h5]; omega
theorem InLt.trans {a b c:Inp} (h:InLt a b) (k:InLt b c):InLt a c:=by unfold InLt at *; omega
theorem InLt.key {a b:Inp}:(¬ InLt a b∧¬ InLt b a) ↔ (a.turn = b.turn∧a.player = b.player):=by unfold InLt; omega
def ListOk (l:List Inp):Prop:=∀ v:Int,0 ≤ v→v < l.length→InpOk (gi l v)∧(0 < v→InLt (gi l (v - 1)) (gi l v))
theorem rising_b {l:List Inp} (h:InpsS l):Bo (turns_Rising l) (ListOk l):=by
 have hl:=h.1
 unfold turns_Rising
 refine scanBo (a:=0) (n:=l.length) (fun v=>InpOk (gi l v)∧(0 < v→InLt (gi l (v - 1)) (gi l v))) (by omega) (fun v v0 v1 _=>?_) (fun v v0 v1=>by rw [if_neg (by omega)])
 rw [if_pos v1]
 obtain ⟨b,e,hb⟩:=mayI_b (h.2 _ (gi_mem ⟨v0,v1⟩))
 refine Ok.gd ⟨v0,v1⟩ (Ok.bindE e ?_)
 refine Ok.bind (R:=fun r=>r = true ↔ ¬ (InpOk (gi l v)∧(0 < v→InLt (gi l (v - 1)) (gi l v)))) (Ok.ite (fun hn=>Ok.ret ⟨fun _ hc=>?_,fun _=>rfl⟩) (fun hn=>?_)) (fun r hr=>?_)
 ·rw [hb.2 hc.1] at hn; simp at hn
 ·have hin:InpOk (gi l v):=hb.1 (by simpa using hn)
  refine Ok.bind (R:=fun r=>r = true ↔ ¬ (InpOk (gi l v)∧(0 < v→InLt (gi l (v - 1)) (gi l v)))) (Ok.ite (fun hv=>?_) (fun hv=>?_)) (fun r hr=>Ok.ret hr)
  ·refine Ok.gd (by unfold I64; omega) (Ok.gd ⟨by omega,by omega⟩ (Ok.bindE (less_p _ _) (Ok.ret ?_)))
   rw [decide_eq_true_iff]
   have:=lessI_lt (gi l (v - 1)) (gi l v)
   constructor
   ·intro h1 h2; have:=this.2 (h2.2 hv); omega
   ·intro h1; apply Classical.byContradiction; intro h2; exact h1 ⟨hin,fun _=>this.1 (by omega)⟩
  ·exact Ok.ret ⟨fun e=>by (cases e),fun h=>absurd ⟨hin,fun h2=>absurd h2 hv⟩ h⟩
 ·refine Ok.ite (fun h1=>Ok.ret ⟨rfl,hr.1 h1⟩) (fun h1=>Ok.gd (by unfold I64; omega) (Ok.ret ⟨rfl,?_⟩))
  apply Classical.byContradiction; intro h2; exact h1 (hr.2 h2)
theorem ListOk.iff {l:List Inp}:ListOk l ↔ (∀ x ∈ l,InpOk x)∧l.Pairwise InLt:=by
 constructor
 ·intro h
  refine ⟨fun x hx=>?_,?_⟩
  ·obtain ⟨i,h0,h1,rfl⟩:=gi_mem2.1 hx
   exact (h i h0 h1).1
  ·have key:∀ d:Nat,∀ i:Int,0 ≤ i→i + 1 + d < l.length→InLt (gi l i) (gi l (i + 1 + d)):=by
    intro d
    induction d with
    | zero=>intro i h0 h1; have:=(h (i + 1) (by omega) (by omega)).2 (by omega); simpa using this
    | succ d ih =>
     intro i h0 h1
     have h2:=ih i h0 (by omega)
     have h3:=(h (i + 1 + (d + 1:Nat)) (by omega) (by omega)).2 (by omega)
     rw [show i + 1 + ((d + 1:Nat):Int) - 1 = i + 1 + (d:Int) by omega] at h3
     exact h2.trans h3
   rw [List.pairwise_iff_getElem]
   intro i j hi hj hij
   have:=key (j - i - 1) (i:Int) (by omega) (by omega)
   rw [show (i:Int) + 1 + ((j - i - 1:Nat):Int) = (j:Int) by omega] at this
   simpa [gi,List.getD,hi,hj] using this
 ·rintro ⟨h1,h2⟩ v v0 v1
  refine ⟨h1 _ (gi_mem ⟨v0,v1⟩),fun hv=>?_⟩
  rw [List.pairwise_iff_getElem] at h2
  have hi:(v - 1).toNat < l.length:=by omega
  have hj:v.toNat < l.length:=by omega
  have:=h2 _ _ hi hj (by omega)
  have e1:gi l v = l[v.toNat]:=by simp [gi,List.getD,hj]
  have e2:gi l (v - 1) = l[(v - 1).toNat]:=by unfold gi; rw [List.getD_eq_getElem?_getD,List.getElem?_eq_getElem hi]; rfl
  rw [e1,e2]; exact this
def Has (l:List Inp) (x:Inp):Prop:=∃ y ∈ l,y.turn = x.turn∧y.player = x.player
def cutI:List Inp→Inp→Nat
  | [],_=>0
  | y :: l,x=>if InLt y x then cutI l x + 1 else 0
theorem cut_le (x:Inp):∀ l:List Inp,cutI l x ≤ l.length
 | []=>Nat.le_refl _
 | y :: l=>by
  unfold cutI
  have:=cut_le x l
  split <;> simp <;> omega
theorem cut_ltN (x:Inp):∀ (l:List Inp) (j:Nat),j < cutI l x→InLt (l.getD j default) x
 | [],j,h=>by simp [cutI] at h
 | y :: l,j,h=>by
  unfold cutI at h
  split at h
  ·rename_i hy
   cases j with
   | zero=>exact hy
   | succ j=>exact cut_ltN x l j (by omega)
  ·omega
theorem cut_atN (x:Inp):∀ (l:List Inp),cutI l x < l.length→¬ InLt (l.getD (cutI l x) default) x
 | [],h=>by simp at h
 | y :: l,h=>by
  unfold cutI at h ⊢
  by_cases hy:InLt y x
  ·rw [if_pos hy] at h ⊢
   exact cut_atN x l (by simpa using h)
  ·rw [if_neg hy]; exact hy
theorem cut_lt {l:List Inp} {x:Inp} {v:Int} (v0:0 ≤ v) (v1:v < cutI l x):InLt (gi l v) x:=cut_ltN x l v.toNat (by omega)
theorem cut_at {l:List Inp} {x:Inp} (h:cutI l x < l.length):¬ InLt (gi l (cutI l x)) x:=by
 have:=cut_atN x l h
 unfold gi
 rwa [Int.toNat_natCast]
theorem ListOk.lt {l:List Inp} (h:l.Pairwise InLt) {i j:Int} (h0:0 ≤ i) (hij:i < j) (hj:j < l.length):InLt (gi l i) (gi l j):=by
 rw [List.pairwise_iff_getElem] at h
 have hi':i.toNat < l.length:=by omega
 have hj':j.toNat < l.length:=by omega
 have:=h _ _ hi' hj' (by omega)
 have e1:gi l j = l[j.toNat]:=by unfold gi; rw [List.getD_eq_getElem?_getD,List.getElem?_eq_getElem hj']; rfl
 have e2:gi l i = l[i.toNat]:=by unfold gi; rw [List.getD_eq_getElem?_getD,List.getElem?_eq_getElem hi']; rfl
 rw [e1,e2]; exact this
theorem cut_uniq {l:List Inp} {x:Inp} (hp:l.Pairwise InLt) {v:Int} (v0:0 ≤ v) (v1:v ≤ l.length) (ha:∀ u,0 ≤ u→u < v→InLt (gi l u) x) (hb:v < l.length→¬ InLt (gi l v) x):v = cutI l x:=by
 have h1:=cut_le x l
 rcases Int.lt_trichotomy v (cutI l x:Int) with h | h | h
 ·exact absurd (cut_lt v0 h) (hb (by omega))
 ·exact h
 ·exact absurd (ha _ (by omega) h) (cut_at (by omega))
theorem has_iff {l:List Inp} {x:Inp} (hp:l.Pairwise InLt):Has l x ↔ (cutI l x < l.length∧¬ InLt x (gi l (cutI l x))):=by
 constructor
 ·rintro ⟨y,hy,hk⟩
  obtain ⟨i,h0,h1,rfl⟩:=gi_mem2.1 hy
  have hn:=InLt.key.2 hk
  have:i = cutI l x:=cut_uniq hp h0 (by omega) (fun u u0 u1=>by have:=ListOk.lt hp u0 u1 h1; unfold InLt at *; omega) (fun _=>hn.1)
  rw [← this]
  exact ⟨by omega,hn.2⟩
 ·rintro ⟨h1,h2⟩
  exact ⟨_,gi_mem ⟨by omega,by omega⟩,InLt.key.1 ⟨cut_at h1,h2⟩⟩
def insI (l:List Inp) (x:Inp):List Inp:=l.take (cutI l x) ++ x :: l.drop (cutI l x)
theorem insI_len (l:List Inp) (x:Inp):(insI l x).length = l.length + 1:=by
 have:=cut_le x l
 unfold insI
 simp; omega
theorem insI_perm (l:List Inp) (x:Inp):(insI l x).Perm (x :: l):=by
 unfold insI
 refine List.perm_middle.trans ?_
 rw [List.take_append_drop]
theorem insI_pair {l:List Inp} {x:Inp} (hp:l.Pairwise InLt) (hn:¬ Has l x):(insI l x).Pairwise InLt:=by
 have hc:=cut_le x l
 have h1:∀ y ∈ l.take (cutI l x),InLt y x:=fun y hy=>by
  obtain ⟨i,h0,hi,rfl⟩:=gi_mem2.1 hy
  rw [List.length_take] at hi
  have:gi (l.take (cutI l x)) i = gi l i:=by
   unfold gi
   rw [List.getD_eq_getElem?_getD,List.getD_eq_getElem?_getD,List.getElem?_take_of_lt (by omega)]
  rw [this]
  exact cut_lt h0 (by omega)
 have h2:∀ y ∈ l.drop (cutI l x),InLt x y:=fun y hy=>by
  obtain ⟨i,h0,hi,rfl⟩:=gi_mem2.1 hy
  rw [List.length_drop] at hi
  have e:gi (l.drop (cutI l x)) i = gi l (cutI l x + i):=by
   unfold gi
   rw [List.getD_eq_getElem?_getD,List.getD_eq_getElem?_getD,List.getElem?_drop,show ((cutI l x:Int) + i).toNat = cutI l x + i.toNat by omega]
  rw [e]
  have hlt:cutI l x < l.length:=by omega
  have h3:InLt x (gi l (cutI l x)):=Classical.byContradiction fun h=>hn ((has_iff hp).2 ⟨hlt,h⟩)
  by_cases hi0:i = 0
  ·subst hi0; simpa using h3
  ·exact h3.trans (ListOk.lt hp (by omega) (by omega) (by omega))
 unfold insI
 rw [List.pairwise_append,List.pairwise_cons]
 refine ⟨hp.sublist (List.take_sublist _ _),⟨h2,hp.sublist (List.drop_sublist _ _)⟩,fun a ha b hb=>?_⟩
 rcases List.mem_cons.1 hb with rfl | hb
 ·exact h1 a ha
 ·exact (h1 a ha).trans (h2 b hb)
theorem search_p {l:List Inp} {x:Inp} (hl:l.length ≤ 1000000) (hp:l.Pairwise InLt):Ok (slices_BinarySearchFuncI l x (fun (y0,y1)=>turns_less y0 y1)) fun r=>r.1 = cutI l x∧(r.2 = true ↔ Has l x):=by
 have hc:=cut_le x l
 unfold slices_BinarySearchFuncI
 refine Ok.bind (R:=fun v:Int=>v = cutI l x) (Ok.loop (fun z:Int × Int=>(0 ≤ z.1∧z.1 ≤ z.2∧z.2 ≤ l.length)∧z.1 ≤ cutI l x∧(cutI l x:Int) ≤ z.2) (fun z=>(z.2 - z.1).toNat) ⟨by simp,by simp,by simpa using hc⟩ (by unfold FUEL; simp; omega) ?_) ?_
 ·rintro ⟨i,j⟩ ⟨⟨h0,h1,h2⟩,h3,h4⟩
  dsimp only at h0 h1 h2 h3 h4 ⊢
  refine Ok.ite (fun hlt=>?_) (fun hlt=>Ok.ret (by show i = _; omega))
  obtain ⟨m,hm⟩:∃ m,m = (i + j) % 18446744073709551616 / 2:=⟨_,rfl⟩
  have hm2:m = (i + j) / 2:=by rw [hm,Int.emod_eq_of_lt (by omega) (by omega)]
  rw [← hm]
  refine Ok.gd (by unfold I64; omega) (Ok.gd (Int.emod_nonneg _ (by decide)) (Ok.gd (by unfold I64; omega) (Ok.gd (by omega) ?_)))
  show Ok (Option.bind (turns_less (gi l m) x) _) _
  rw [less_p,bsome]
  refine Ok.ite (fun hs=>?_) (fun hs=>?_)
  ·have hs:=(lessI_lt _ _).1 hs
   refine Ok.gd (by unfold I64; omega) (Ok.ret ⟨⟨⟨by show 0 ≤ m + 1; omega,by show m + 1 ≤ j; omega,h2⟩,?_,h4⟩,by show (j - (m + 1)).toNat < (j - i).toNat; omega⟩)
   show m + 1 ≤ _
   apply Classical.byContradiction; intro hn
   have hcm:(cutI l x:Int) ≤ m:=by omega
   refine cut_at (l:=l) (x:=x) (by omega) ?_
   by_cases e:(cutI l x:Int) = m
   ·rw [e]; exact hs
   ·exact (ListOk.lt hp (by omega) (by omega:(cutI l x:Int) < m) (by omega)).trans hs
  ·refine Ok.ret ⟨⟨⟨h0,by show i ≤ m; omega,by show m ≤ _; omega⟩,h3,?_⟩,by show (m - i).toNat < (j - i).toNat; omega⟩
   show (cutI l x:Int) ≤ m
   apply Classical.byContradiction; intro hn
   exact hs ((lessI_lt _ _).2 (cut_lt (by omega) (by omega)))
 ·rintro v rfl
  by_cases hlt:(cutI l x:Int) < l.length
  ·rw [if_pos hlt,if_pos (by omega)]
   show Ok (Option.bind (Option.bind (turns_less (gi l (cutI l x)) x) _) _) _
   rw [less_p,bsome,bsome]
   refine Ok.ret ⟨rfl,?_⟩
   show decide (lessI (gi l (cutI l x)) x = 0) = true ↔ _
   rw [decide_eq_true_iff,lessI_eq,has_iff hp,← InLt.key]
   exact ⟨fun h=>⟨by omega,h.2⟩,fun h=>⟨cut_at h.1,h.2⟩⟩
  ·rw [if_neg hlt,bsome]
   refine Ok.ret ⟨rfl,?_⟩
   show false = true ↔ _
   rw [has_iff hp]
   exact ⟨fun h=>by (cases h),fun h=>absurd h.1 (by omega)⟩
theorem in_p {l:List Inp} {x:Inp} (h:InpsS l) (hx:InpS x) (hp:l.Pairwise InLt):(Has l x→turns_In l x = some ([],false))∧(¬ Has l x→turns_In l x = some (insI l x,true)):=by
 have hl:=h.1
 have hc:=cut_le x l
 obtain ⟨⟨k,b⟩,e,h1,h2⟩:=search_p (x:=x) hl hp
 dsimp only at h1 h2
 subst h1
 unfold turns_In
 rw [e,bsome]
 dsimp only
 constructor
 ·intro hh; rw [if_pos (h2.2 hh)]
 ·intro hh
  rw [if_neg (fun e=>hh (h2.1 e)),ownIs_p h,bsome,ownI_p hx,bsome]
  unfold slices_InsertI
  rw [if_pos ⟨rfl,by omega,by omega⟩,bsome,Int.toNat_natCast]
  unfold insI
  rw [List.append_assoc]; rfl
theorem part_p {l:List Inp} (h:InpsS l) (t:Int):turns_Part l t = some (l.filter fun i=>decide (i.turn = t),l.filter fun i=>!decide (i.turn = t)):=by
 have hl:=h.1
 unfold turns_Part
 refine Ok.eq (Ok.bind (R:=fun x=>x = (l.filter (fun i=>decide (i.turn = t)),l.filter fun i=>!decide (i.turn = t))) (Ok.loop (fun z:List Inp × List Inp × Int=>(0 ≤ z.2.2∧z.2.2 ≤ l.length)∧z.1 = (l.take z.2.2.toNat).filter (fun i=>decide (i.turn = t))∧z.2.1 = (l.take z.2.2.toNat).filter fun i=>!decide (i.turn = t)) (fun z=>(l.length - z.2.2).toNat) ⟨by simp,by simp,by simp⟩ (by unfold FUEL; simp; omega) ?_) (fun x hx=>Ok.ret hx))
 rintro ⟨a,b,v⟩ ⟨⟨v0,v1⟩,ha,hb⟩
 dsimp only at v0 v1 ha hb ⊢
 have ha':a.length ≤ 1000000:=by rw [ha]; exact Nat.le_trans (List.length_filter_le _ _) (by rw [List.length_take]; omega)
 have hb':b.length ≤ 1000000:=by rw [hb]; exact Nat.le_trans (List.length_filter_le _ _) (by rw [List.length_take]; omega)
 refine Ok.ite (fun hlt=>Ok.gd ⟨v0,hlt⟩ ?_) (fun hlt=>Ok.ret ?_)
 ·have hnx:=take_nextV (s:=l) (i:=v) ⟨v0,hlt⟩
  rw [ownI_p (h.2 _ (gi_mem ⟨v0,hlt⟩))]
  refine Ok.ite (fun ht=>?_) (fun ht=>?_)
  ·rw [bsome]
   refine Ok.gd (by omega) (Ok.gd (by unfold I64; omega) (Ok.ret ⟨⟨⟨by show 0 ≤ v + 1; omega,by show v + 1 ≤ _; omega⟩,?_,?_⟩,by show (l.length - (v + 1)).toNat < _; omega⟩))
   ·show _ = (l.take (v + 1).toNat).filter _
    rw [hnx,List.filter_append,← ha]; simp [ht]
   ·show _ = (l.take (v + 1).toNat).filter _
    rw [hnx,List.filter_append,← hb]; simp [ht]
  ·rw [bsome]
   refine Ok.gd (by omega) (Ok.gd (by unfold I64; omega) (Ok.ret ⟨⟨⟨by show 0 ≤ v + 1; omega,by show v + 1 ≤ _; omega⟩,?_,?_⟩,by show (l.length - (v + 1)).toNat < _; omega⟩))
   ·show _ = (l.take (v + 1).toNat).filter _
    rw [hnx,List.filter_append,← ha]; simp [ht]
   ·show _ = (l.take (v + 1).toNat).filter _
    rw [hnx,List.filter_append,← hb]; simp [ht]
 ·have:v = l.length:=by omega
  subst this
  rw [ha,hb]; simp
end Go.Proofs.YtmngdgclldkcfaaGreat
set_option linter.unusedVariables false
set_option linter.unusedSimpArgs false
namespace Go.Proofs.YtmngdgclldkcfaaGreat
open Go.Vg Go.Lib
def KD (l:List Inp):Prop:=l.Pairwise fun a b=>¬ (a.turn = b.turn∧a.player = b.player)
theorem all_p {l:List Inp} (h:InpsS l):turns_All l = some (l.flatMap (·.commands)):=by
 have hl:=h.1
 unfold turns_All
 refine Ok.eq (Ok.bind (R:=fun x=>x = l.flatMap (·.commands)) (Ok.loop (fun z:List Cmd × Int=>(0 ≤ z.2∧z.2 ≤ l.length)∧z.1 = (l.take z.2.toNat).flatMap (·.commands)∧(z.1.length:Int) ≤ 1000000 * z.2) (fun z=>(l.length - z.2).toNat) ⟨by simp,by simp,by simp⟩ (by unfold FUEL; simp; omega) ?_) (fun x hx=>Ok.ret hx))
 rintro ⟨a,v⟩ ⟨⟨v0,v1⟩,ha,hb⟩
 dsimp only at v0 v1 ha hb ⊢
 refine Ok.ite (fun hlt=>Ok.gd ⟨v0,hlt⟩ ?_) (fun hlt=>Ok.ret ?_)
 ·have hI:=h.2 _ (gi_mem ⟨v0,hlt⟩)
  have hI1:=hI.1
  rw [ownCs_p hI.1 hI.2,bsome]
  refine Ok.gd (by omega) (Ok.gd (by unfold I64; omega) (Ok.ret ⟨⟨⟨by show 0 ≤ v + 1; omega,by show v + 1 ≤ _; omega⟩,?_,?_⟩,by show (l.length - (v + 1)).toNat < _; omega⟩))
  ·show _ = (l.take (v + 1).toNat).flatMap _
   rw [take_nextV ⟨v0,hlt⟩,List.flatMap_append,← ha]; simp
  ·show ((a ++ _).length:Int) ≤ 1000000 * (v + 1)
   rw [List.length_append]; omega
 ·have:v = l.length:=by omega
  subst this
  rw [ha]; simp
end Go.Proofs.YtmngdgclldkcfaaGreat
set_option linter.unusedVariables false
set_option linter.unusedSimpArgs false
namespace Go.Proofs.YtmngdgclldkcfaaGreat
open Go.Vg Go.Lib
def CmdG (c:Cmd):Prop:=c.units.length ≤ 140737488351232
def InpG (i:Inp):Prop:=i.commands.length ≤ 140737488351232∧∀ c ∈ i.commands,CmdG c
theorem Inp.Wf.G {i:Inp} (h:Inp.Wf i):InpG i:=⟨h.2.2.2,fun c hc=>(h.2.2.1 c hc).2.2.2.2.1.2⟩
end Go.Proofs.YtmngdgclldkcfaaGreat
