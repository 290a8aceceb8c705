/-
  Texts of one's own, joined: PGX UP UQ UR U0 PV PW PX PY PT0 PTN PTG PTA.
-/
import Derived.Test.YtmngdgclldkcfaaGreatA4
import Derived.Test.YtmngdgclldkcfaaGreatW3
import Derived.Lib.Small
set_option linter.unusedVariables false
namespace Go.Proofs.YtmngdgclldkcfaaGreat
open Go.Vg
def throngref0_EqCommand (a0_a:Cmd) (a1_b:Cmd):Option Bool :=
  Option.bind (if (((a0_a.player = a1_b.player)∧(a0_a.seq = a1_b.seq))∧(a0_a.kind = a1_b.kind))∧(a0_a.n = a1_b.n) then
  Option.bind (throngref0_EqNumbers a0_a.units a1_b.units) fun x21 =>
  some x21
  else
  some false) fun b11 =>
  some (decide (((((b11 = true)∧(a0_a.tile = a1_b.tile))∧(a0_a.w = a1_b.w))∧(a0_a.h = a1_b.h))∧(a0_a.pos = a1_b.pos)))
def throngref0_Rising (a0_l:List Int):Option Bool :=
  Option.bind (α:=Ex (Unit) (Bool)) (loop (σ:=Int) (β:=Ex (Unit) (Bool)) (fun v2 =>
  if v2 < (a0_l.length:Int) then
  if 0 ≤ v2∧v2 < (a0_l.length:Int) then
  if I64 (v2 - 1) then
  if 0 ≤ (v2 - 1)∧(v2 - 1) < (a0_l.length:Int) then
  if (gi a0_l v2) ≤ (gi a0_l (v2 - 1)) then
  some (St.done (Ex.up false))
  else
  if I64 (v2 + 1) then
  some (St.next (v2 + 1))
  else none
  else none
  else none
  else none
  else
  some (St.done (Ex.go ()))) 1) fun x=>x.then fun _ =>
  some true
def throngref0_Between (a0_l:List Int) (a1_from:Int) (a2_to:Int):Option Bool :=
  Option.bind (α:=Ex (Unit) (Bool)) (loop (σ:=Int) (β:=Ex (Unit) (Bool)) (fun v2 =>
  if v2 < (a0_l.length:Int) then
  if 0 ≤ v2∧v2 < (a0_l.length:Int) then
  if ¬ ((gi a0_l v2) < a1_from)→(0 ≤ v2∧v2 < (a0_l.length:Int)) then
  if ((gi a0_l v2) < a1_from) ∨ (a2_to < (gi a0_l v2)) then
  some (St.done (Ex.up false))
  else
  if I64 (v2 + 1) then
  some (St.next (v2 + 1))
  else none
  else none
  else none
  else
  some (St.done (Ex.go ()))) 0) fun x=>x.then fun _ =>
  some true
def throngref17_May (a0_p:Vec) (a1_r:Int):Option Bool :=
  some (decide ((((((0 ≤ a1_r)∧(a1_r ≤ 262144))∧((-1099511627776) ≤ a0_p.x))∧(a0_p.x ≤ 1099511627776))∧((-1099511627776) ≤ a0_p.y))∧(a0_p.y ≤ 1099511627776)))
def throngref21_ids (a0_l:List Int):Option Bool :=
  Option.bind (if (1 ≤ (a0_l.length:Int))∧((a0_l.length:Int) ≤ 64) then
  Option.bind (throngref0_Rising a0_l) fun x12 =>
  some x12
  else
  some false) fun b5 =>
  Option.bind (if b5 = true then
  Option.bind (throngref0_Between a0_l 1 1099511627776) fun x10 =>
  some x10
  else
  some false) fun b8 =>
  some b8
def throngref21_tile (a0_t:Int):Option Bool :=
  some (decide ((0 ≤ a0_t)∧(a0_t < 16384)))
def throngref21_id (a0_n:Int):Option Bool :=
  some (decide ((1 ≤ a0_n)∧(a0_n ≤ 1099511627776)))
def throngref21_Command (a0_c:Cmd):Option Bool :=
  Option.bind (if (1 ≤ a0_c.player)∧(a0_c.player ≤ 8) then
  Option.bind (throngref0_Num a0_c.seq 1099511627776) fun x114 =>
  some x114
  else
  some false) fun b7 =>
  if a0_c.kind = 1 then
  Option.bind (if b7 = true then
  Option.bind (throngref0_Num a0_c.n 3) fun x23 =>
  some x23
  else
  some false) fun b11 =>
  Option.bind (if b11 = true then
  Option.bind (throngref17_May a0_c.pos 0) fun x21 =>
  some x21
  else
  some false) fun b14 =>
  Option.bind (if b14 = true then
  Option.bind (throngref0_EqCommand (⟨a0_c.player,a0_c.seq,a0_c.kind,a0_c.n,[],0,0,0,a0_c.pos⟩:Cmd) a0_c) fun x19 =>
  some x19
  else
  some false) fun b17 =>
  some b17
  else
  if a0_c.kind = 2 then
  Option.bind (if b7 = true then
  Option.bind (throngref21_ids a0_c.units) fun x39 =>
  some x39
  else
  some false) fun b27 =>
  Option.bind (if b27 = true then
  Option.bind (throngref21_tile a0_c.tile) fun x37 =>
  some x37
  else
  some false) fun b30 =>
  Option.bind (if b30 = true then
  Option.bind (throngref0_EqCommand (⟨a0_c.player,a0_c.seq,a0_c.kind,0,a0_c.units,a0_c.tile,0,0,(⟨0,0⟩:Vec)⟩:Cmd) a0_c) fun x35 =>
  some x35
  else
  some false) fun b33 =>
  some b33
  else
  if a0_c.kind = 3 then
  Option.bind (if b7 = true then
  Option.bind (throngref21_ids a0_c.units) fun x50 =>
  some x50
  else
  some false) fun b43 =>
  Option.bind (if b43 = true then
  Option.bind (throngref0_EqCommand (⟨a0_c.player,a0_c.seq,a0_c.kind,0,a0_c.units,0,0,0,(⟨0,0⟩:Vec)⟩:Cmd) a0_c) fun x48 =>
  some x48
  else
  some false) fun b46 =>
  some b46
  else
  if a0_c.kind = 4 then
  Option.bind (if b7 = true then
  Option.bind (throngref21_tile a0_c.tile) fun x69 =>
  some x69
  else
  some false) fun b54 =>
  Option.bind (if ((((b54 = true)∧(1 ≤ a0_c.w))∧(a0_c.w ≤ 4))∧(1 ≤ a0_c.h))∧(a0_c.h ≤ 4) then
  Option.bind (throngref0_EqCommand (⟨a0_c.player,a0_c.seq,a0_c.kind,0,[],a0_c.tile,a0_c.w,a0_c.h,(⟨0,0⟩:Vec)⟩:Cmd) a0_c) fun x67 =>
  some x67
  else
  some false) fun b65 =>
  some b65
  else
  if a0_c.kind = 5 then
  Option.bind (if b7 = true then
  Option.bind (throngref21_id a0_c.n) fun x80 =>
  some x80
  else
  some false) fun b73 =>
  Option.bind (if b73 = true then
  Option.bind (throngref0_EqCommand (⟨a0_c.player,a0_c.seq,a0_c.kind,a0_c.n,[],0,0,0,(⟨0,0⟩:Vec)⟩:Cmd) a0_c) fun x78 =>
  some x78
  else
  some false) fun b76 =>
  some b76
  else
  if a0_c.kind = 6 then
  Option.bind (if b7 = true then
  Option.bind (throngref21_ids a0_c.units) fun x96 =>
  some x96
  else
  some false) fun b84 =>
  Option.bind (if b84 = true then
  Option.bind (throngref21_id a0_c.n) fun x94 =>
  some x94
  else
  some false) fun b87 =>
  Option.bind (if b87 = true then
  Option.bind (throngref0_EqCommand (⟨a0_c.player,a0_c.seq,a0_c.kind,a0_c.n,a0_c.units,0,0,0,(⟨0,0⟩:Vec)⟩:Cmd) a0_c) fun x92 =>
  some x92
  else
  some false) fun b90 =>
  some b90
  else
  if a0_c.kind = 7 then
  Option.bind (if b7 = true then
  Option.bind (throngref21_id a0_c.n) fun x112 =>
  some x112
  else
  some false) fun b100 =>
  Option.bind (if b100 = true then
  Option.bind (throngref21_tile a0_c.tile) fun x110 =>
  some x110
  else
  some false) fun b103 =>
  Option.bind (if b103 = true then
  Option.bind (throngref0_EqCommand (⟨a0_c.player,a0_c.seq,a0_c.kind,a0_c.n,[],a0_c.tile,0,0,(⟨0,0⟩:Vec)⟩:Cmd) a0_c) fun x108 =>
  some x108
  else
  some false) fun b106 =>
  some b106
  else
  some false
def throngref27_least (a0_l:List Int):Option Int :=
  if 0 ≤ (0:Int)∧(0:Int) < (a0_l.length:Int) then
  Option.bind (α:=Int) (loop (σ:=Int × Int) (β:=Int) (fun (v6,v7) =>
  if v7 < (a0_l.length:Int) then
  if 0 ≤ v7∧v7 < (a0_l.length:Int) then
  if I64 (v7 + 1) then
  some (St.next ((min v6 (gi a0_l v7)),(v7 + 1)))
  else none
  else none
  else
  some (St.done v6)) ((gi a0_l (0:Int)),1)) fun v5 =>
  some v5
  else none
end Go.Proofs.YtmngdgclldkcfaaGreat
set_option linter.unusedVariables false
set_option linter.unusedSimpArgs false
namespace Go.Proofs.YtmngdgclldkcfaaGreat
open Go.Vg Go
def orI (x y:Int):Int:=if x = 0 then y else x
theorem orI_lt (a b c d:Int):orI (Lib.compareInt a c) (Lib.compareInt b d) < 0 ↔ (a < c ∨ (a = c∧b < d)):=by
  unfold orI Lib.compareInt
  by_cases h1:a < c
  · simp [h1]
  · by_cases h2:c < a
    · simp [h1,h2]; omega
    · have h3:a = c:=by omega
      subst h3
      by_cases h4:b < d
      · simp [h4]
      · by_cases h5:d < b <;> simp [h4,h5]
def InLt (a b:Inp):Prop:=a.turn < b.turn ∨ (a.turn = b.turn∧a.player < b.player)
instance (a b:Inp):Decidable (InLt a b):=by unfold InLt; exact inferInstance
def CmdS (c:Cmd):Prop:=c.units.length ≤ 1000000
def InpS (i:Inp):Prop:=i.commands.length ≤ 1000000∧∀ c ∈ i.commands,CmdS c
def InpsS (l:List Inp):Prop:=l.length ≤ 1000000∧∀ i ∈ l,InpS i
instance (c:Cmd):Decidable (CmdS c):=by unfold CmdS; exact inferInstance
instance (i:Inp):Decidable (InpS i):=by unfold InpS; exact inferInstance
instance (l:List Inp):Decidable (InpsS l):=by unfold InpsS; exact inferInstance
section
variable {α:Type} [Inhabited α]
def copyBF (f:α→Option α) (l:List α):Option (List α) :=
  Option.bind (α:=List α) (loop (σ:=List α × Int) (β:=List α) (fun (l4,v6) =>
  if v6 < (l.length:Int) then
  if 0 ≤ v6∧v6 < (l.length:Int) then
  Option.bind (f (gi l v6)) fun x18 =>
  if l4.length + 1 < 1099511627776 then
  if I64 (v6 + 1) then
  some (St.next ((l4 ++ ([x18]:List α)),(v6 + 1)))
  else none
  else none
  else none
  else
  some (St.done l4)) ([],0)) fun v2 =>
  some v2
theorem copyBF_eq {f:α→Option α} {l:List α} (h:l.length < 1099511627775) (hf:∀ x ∈ l,f x = some x):copyBF f l = some l:=by
  unfold copyBF
  refine Ok.eq (Ok.bind (R:=fun x=>x = l) (Ok.loop (fun z:List α × Int=>0 ≤ z.2∧z.2 ≤ l.length∧z.1 = l.take z.2.toNat) (fun z=>(l.length - z.2).toNat) ⟨by simp,by simp,by simp⟩ (by unfold FUEL; simp; omega) ?_) (fun x hx=>Ok.ret hx))
  rintro ⟨m,i⟩ ⟨h0,h1,hq⟩
  try dsimp only at h0 h1 hq ⊢
  subst hq
  refine Ok.ite (fun hlt=>?_) (fun hlt=>Ok.ret ?_)
  · refine Ok.gd ⟨h0,hlt⟩ ?_
    rw [hf _ (gi_mem ⟨h0,hlt⟩),bsome]
    refine Ok.gd (by rw [List.length_take]; omega) (Ok.gd (by unfold I64; omega) (Ok.ret ⟨⟨by show 0 ≤ i + 1; omega,by show i + 1 ≤ _; omega,?_⟩,by show (l.length - (i + 1)).toNat < _; omega⟩))
    show _ = l.take (i + 1).toNat
    rw [take_nextV ⟨h0,hlt⟩]
  · have:i = l.length:=by omega
    subst this
    simp
end
theorem bifb (b y:Bool) {β:Type} (k:Bool→Option β):(Option.bind (if b = true then Option.bind (some y) fun x=>some x else some false) k) = k (b && y):=by cases b <;> rfl
theorem bifp {p:Prop} [Decidable p] (y:Bool) {β:Type} (k:Bool→Option β):(Option.bind (if p then Option.bind (some y) fun x=>some x else some false) k) = k (decide p && y):=by
  by_cases h:p
  · rw [if_pos h,decide_eq_true h]; rfl
  · rw [if_neg h,decide_eq_false h]; rfl
theorem bifc (b y:Bool) {β:Type} (k:Bool→Option β):(Option.bind (if b = true then some y else some false) k) = k (b && y):=by cases b <;> rfl
theorem bifq {p:Prop} [Decidable p] (y:Bool) {β:Type} (k:Bool→Option β):(Option.bind (if p then some y else some false) k) = k (decide p && y):=by
  by_cases h:p
  · rw [if_pos h,decide_eq_true h]; rfl
  · rw [if_neg h,decide_eq_false h]; rfl
theorem eqN_p {a b:List Int} (h:a.length ≤ 9223372036854775807):throngref0_EqNumbers a b = some (decide (a = b)):=eqF_eq h
theorem ownC_p {c:Cmd} (h:CmdS c):command_Own c = some c:=by
  unfold command_Own slices_Clone_Int
  rw [if_pos (by unfold CmdS at h; omega)]; rfl
theorem ownCs_p {l:List Cmd} (hl:l.length ≤ 1000000) (h:∀ c ∈ l,CmdS c):command_OwnAll l = some l:=copyBF_eq (f:=command_Own) (by omega) fun c hc=>ownC_p (h c hc)
theorem ownI_p {i:Inp} (h:InpS i):turns_Own i = some i:=by
  unfold turns_Own
  rw [ownCs_p h.1 h.2]; rfl
theorem ownIs_p {l:List Inp} (h:InpsS l):turns_OwnAll l = some l:=copyBF_eq (f:=turns_Own) (by have:=h.1; omega) fun c hc=>ownI_p (h.2 c hc)
theorem eqC_p {a b:Cmd} (h:CmdS a):throngref0_EqCommand a b = some (decide (a = b)):=by
  unfold throngref0_EqCommand
  rw [eqN_p (by unfold CmdS at h; omega),bifp,Option.some.injEq,decide_eq_decide]
  simp only [Bool.and_eq_true,decide_eq_true_eq]
  constructor
  · rintro ⟨⟨⟨⟨⟨⟨⟨⟨h1,h2⟩,h3⟩,h4⟩,h5⟩,h6⟩,h7⟩,h8⟩,h9⟩
    cases a; cases b; simp_all
  · rintro rfl; simp
def UnitsOk (l:List Int):Prop:=((1 ≤ (l.length:Int))∧((l.length:Int) ≤ 64))∧∀ v:Int,0 ≤ v→v < l.length→(1 ≤ gi l v∧gi l v ≤ 1099511627776)∧(0 < v→gi l (v - 1) < gi l v)
theorem units_b {l:List Int} (hl:l.length ≤ 1000000):Bo (command_units l) (UnitsOk l):=by
  unfold command_units
  refine Ok.bind (scanOk (a:=0) (n:=l.length) (fun v=>(1 ≤ gi l v∧gi l v ≤ 1099511627776)∧(0 < v→gi l (v - 1) < gi l v)) (fun r=>r = false∧¬ UnitsOk l) (by omega) (fun v v0 v1 _=>?_) (fun v v0 v1=>by rw [if_neg (by omega)])) ?_
  · rw [if_pos v1]
    refine Ok.gd ⟨v0,v1⟩ (Ok.gd (fun _ _=>by unfold I64; omega) (Ok.gd (fun _ h=>⟨by omega,by omega⟩) (Ok.ite (fun h=>Ok.ret ⟨rfl,fun hu=>?_⟩) (fun h=>Ok.gd (by unfold I64; omega) (Ok.ret ⟨rfl,?_⟩)))))
    · have:=hu.2 v v0 v1
      rcases h with h | h
      · omega
      · have:=this.2 h.1; omega
    · refine ⟨by omega,fun hv=>?_⟩
      apply Classical.byContradiction; intro hc
      exact h (.inr ⟨hv,by omega⟩)
  · rintro (_ | _) hx
    · exact Bo.dec ⟨fun h=>⟨h,hx⟩,fun h=>h.1⟩
    · exact Ok.ret ⟨fun e=>(by rw [hx.1] at e; cases e),fun h=>absurd h hx.2⟩
theorem ids_b {l:List Int} (hl:l.length ≤ 1000000):Bo (throngref21_ids l) (UnitsOk l):=by
  have hr:Bo (throngref0_Rising l) (∀ v:Int,1 ≤ v→v < l.length→gi l (v - 1) < gi l v):=by
    unfold throngref0_Rising
    refine scanBo (a:=1) (n:=l.length) (fun v=>gi l (v - 1) < gi l v) (by omega) (fun v v0 v1 _=>?_) (fun v v0 v1=>by rw [if_neg (by omega)])
    rw [if_pos v1]
    exact Ok.gd ⟨by omega,v1⟩ (Ok.gd (by unfold I64; omega) (Ok.gd ⟨by omega,by omega⟩ (Ok.ite (fun h=>Ok.ret ⟨rfl,by omega⟩) (fun h=>Ok.gd (by unfold I64; omega) (Ok.ret ⟨rfl,by omega⟩)))))
  have hb:Bo (throngref0_Between l 1 1099511627776) (∀ v:Int,0 ≤ v→v < l.length→1 ≤ gi l v∧gi l v ≤ 1099511627776):=by
    unfold throngref0_Between
    refine scanBo (a:=0) (n:=l.length) (fun v=>1 ≤ gi l v∧gi l v ≤ 1099511627776) (by omega) (fun v v0 v1 _=>?_) (fun v v0 v1=>by rw [if_neg (by omega)])
    rw [if_pos v1]
    exact Ok.gd ⟨by omega,v1⟩ (Ok.gd (fun _=>⟨by omega,by omega⟩) (Ok.ite (fun h=>Ok.ret ⟨rfl,by omega⟩) (fun h=>Ok.gd (by unfold I64; omega) (Ok.ret ⟨rfl,by omega⟩))))
  obtain ⟨r,er,hr⟩:=hr
  obtain ⟨b,eb,hb⟩:=hb
  unfold throngref21_ids
  rw [er,eb,bifp,bifb]
  refine Ok.ret ?_
  rw [Bool.and_eq_true,Bool.and_eq_true,decide_eq_true_eq,hr,hb]
  constructor
  · rintro ⟨⟨h1,h2⟩,h3⟩
    exact ⟨h1,fun v v0 v1=>⟨h3 v v0 v1,fun hv=>h2 v (by omega) v1⟩⟩
  · rintro ⟨h1,h2⟩
    exact ⟨⟨h1,fun v v0 v1=>(h2 v (by omega) v1).2 (by omega)⟩,fun v v0 v1=>(h2 v v0 v1).1⟩
theorem mayC_same {c:Cmd} (h:CmdS c):∃ b,command_May c = some b∧throngref21_Command c = some b:=by
  obtain ⟨u,hu,hut⟩:=units_b h
  obtain ⟨d,hd,hdt⟩:=ids_b h
  have hud:u = d:=by
    cases u <;> cases d <;> simp_all
  subst hud
  unfold command_May command_only throngref21_Command
  have e0:∀ a:Cmd,CmdS a→throngref0_EqCommand a c = some (decide (a = c)):=fun a ha=>eqC_p ha
  have z0:∀ p s k n t w hh q,CmdS (⟨p,s,k,n,[],t,w,hh,q⟩:Cmd):=fun _ _ _ _ _ _ _ _=>by show (0:Nat) ≤ 1000000; omega
  have z1:∀ p s k n t w hh q,CmdS (⟨p,s,k,n,c.units,t,w,hh,q⟩:Cmd):=fun _ _ _ _ _ _ _ _=>h
  have p0:∀ (p:Vec) (r:Int),throngref17_May p r = some (decide ((((((0 ≤ r)∧(r ≤ 262144))∧((-1099511627776) ≤ p.x))∧(p.x ≤ 1099511627776))∧((-1099511627776) ≤ p.y))∧(p.y ≤ 1099511627776))):=fun _ _=>rfl
  have fin:∀ {x y:Bool},(x = true ↔ y = true)→∃ b,some x = some b∧some y = some b:=fun {x y} h=>⟨x,rfl,by rw [Bool.eq_iff_iff.2 h]⟩
  have hu0:∀ l:List Int,((([]:List Int).length:Int) = (l.length:Int)) ↔ [] = l:=fun l=>by
    cases l with
    | nil=>simp
    | cons a l=>simp; omega
  by_cases k1:c.kind = 1
  · simp only [k1,if_true,reduceIte,kind_May,disc_Place,command_within,throngref0_Num,p0,throngref21_tile,throngref21_id,hu,hd,e0 _ (z0 _ _ _ _ _ _ _ _),e0 _ (z1 _ _ _ _ _ _ _ _),bsome,bifc,bifq]
    refine fin ?_
    cases c
    simp only [Cmd.mk.injEq,Bool.and_eq_true,decide_eq_true_eq,hu0] at k1 ⊢
    subst k1
    constructor
    · rintro ⟨⟨⟨⟨⟨⟨h1,h2⟩,h3⟩,h4⟩,h5⟩,h6⟩,h7⟩
      subst_vars
      simp only [true_and,and_true] at *
      first | omega | (simp_all; done) | (simp_all; omega)
    · intro h
      clear hu hd e0 z0 z1 p0 hut hdt fin
      simp only [eq_comm (a:=(0:Int)),eq_comm (a:=(⟨0,0⟩:Vec)),eq_comm (a:=([]:List Int))] at h ⊢
      first | (simp_all; done) | (simp_all; omega)
  by_cases k2:c.kind = 2
  · simp only [k2,if_true,reduceIte,kind_May,disc_Place,command_within,throngref0_Num,p0,throngref21_tile,throngref21_id,hu,hd,e0 _ (z0 _ _ _ _ _ _ _ _),e0 _ (z1 _ _ _ _ _ _ _ _),bsome,bifc,bifq]
    refine fin ?_
    cases c
    simp only [Cmd.mk.injEq,Bool.and_eq_true,decide_eq_true_eq,hu0] at k2 ⊢
    subst k2
    constructor
    · rintro ⟨⟨⟨⟨⟨⟨h1,h2⟩,h3⟩,h4⟩,h5⟩,h6⟩,h7⟩
      subst_vars
      simp only [true_and,and_true] at *
      first | omega | (simp_all; done) | (simp_all; omega)
    · intro h
      clear hu hd e0 z0 z1 p0 hut hdt fin
      simp only [eq_comm (a:=(0:Int)),eq_comm (a:=(⟨0,0⟩:Vec)),eq_comm (a:=([]:List Int))] at h ⊢
      first | (simp_all; done) | (simp_all; omega)
  by_cases k3:c.kind = 3
  · simp only [k3,if_true,reduceIte,kind_May,disc_Place,command_within,throngref0_Num,p0,throngref21_tile,throngref21_id,hu,hd,e0 _ (z0 _ _ _ _ _ _ _ _),e0 _ (z1 _ _ _ _ _ _ _ _),bsome,bifc,bifq]
    refine fin ?_
    cases c
    simp only [Cmd.mk.injEq,Bool.and_eq_true,decide_eq_true_eq,hu0] at k3 ⊢
    subst k3
    constructor
    · rintro ⟨⟨⟨⟨⟨⟨h1,h2⟩,h3⟩,h4⟩,h5⟩,h6⟩,h7⟩
      subst_vars
      simp only [true_and,and_true] at *
      first | omega | (simp_all; done) | (simp_all; omega)
    · intro h
      clear hu hd e0 z0 z1 p0 hut hdt fin
      simp only [eq_comm (a:=(0:Int)),eq_comm (a:=(⟨0,0⟩:Vec)),eq_comm (a:=([]:List Int))] at h ⊢
      first | (simp_all; done) | (simp_all; omega)
  by_cases k4:c.kind = 4
  · simp only [k4,if_true,reduceIte,kind_May,disc_Place,command_within,throngref0_Num,p0,throngref21_tile,throngref21_id,hu,hd,e0 _ (z0 _ _ _ _ _ _ _ _),e0 _ (z1 _ _ _ _ _ _ _ _),bsome,bifc,bifq]
    refine fin ?_
    cases c
    simp only [Cmd.mk.injEq,Bool.and_eq_true,decide_eq_true_eq,hu0] at k4 ⊢
    subst k4
    constructor
    · rintro ⟨⟨⟨⟨⟨⟨h1,h2⟩,h3⟩,h4⟩,h5⟩,h6⟩,h7⟩
      subst_vars
      simp only [true_and,and_true] at *
      first | omega | (simp_all; done) | (simp_all; omega)
    · intro h
      clear hu hd e0 z0 z1 p0 hut hdt fin
      simp only [eq_comm (a:=(0:Int)),eq_comm (a:=(⟨0,0⟩:Vec)),eq_comm (a:=([]:List Int))] at h ⊢
      first | (simp_all; done) | (simp_all; omega)
  by_cases k5:c.kind = 5
  · simp only [k5,if_true,reduceIte,kind_May,disc_Place,command_within,throngref0_Num,p0,throngref21_tile,throngref21_id,hu,hd,e0 _ (z0 _ _ _ _ _ _ _ _),e0 _ (z1 _ _ _ _ _ _ _ _),bsome,bifc,bifq]
    refine fin ?_
    cases c
    simp only [Cmd.mk.injEq,Bool.and_eq_true,decide_eq_true_eq,hu0] at k5 ⊢
    subst k5
    constructor
    · rintro ⟨⟨⟨⟨⟨⟨h1,h2⟩,h3⟩,h4⟩,h5⟩,h6⟩,h7⟩
      subst_vars
      simp only [true_and,and_true] at *
      first | omega | (simp_all; done) | (simp_all; omega)
    · intro h
      clear hu hd e0 z0 z1 p0 hut hdt fin
      simp only [eq_comm (a:=(0:Int)),eq_comm (a:=(⟨0,0⟩:Vec)),eq_comm (a:=([]:List Int))] at h ⊢
      first | (simp_all; done) | (simp_all; omega)
  by_cases k6:c.kind = 6
  · simp only [k6,if_true,reduceIte,kind_May,disc_Place,command_within,throngref0_Num,p0,throngref21_tile,throngref21_id,hu,hd,e0 _ (z0 _ _ _ _ _ _ _ _),e0 _ (z1 _ _ _ _ _ _ _ _),bsome,bifc,bifq]
    refine fin ?_
    cases c
    simp only [Cmd.mk.injEq,Bool.and_eq_true,decide_eq_true_eq,hu0] at k6 ⊢
    subst k6
    constructor
    · rintro ⟨⟨⟨⟨⟨⟨h1,h2⟩,h3⟩,h4⟩,h5⟩,h6⟩,h7⟩
      subst_vars
      simp only [true_and,and_true] at *
      first | omega | (simp_all; done) | (simp_all; omega)
    · intro h
      clear hu hd e0 z0 z1 p0 hut hdt fin
      simp only [eq_comm (a:=(0:Int)),eq_comm (a:=(⟨0,0⟩:Vec)),eq_comm (a:=([]:List Int))] at h ⊢
      first | (simp_all; done) | (simp_all; omega)
  by_cases k7:c.kind = 7
  · simp only [k7,if_true,reduceIte,kind_May,disc_Place,command_within,throngref0_Num,p0,throngref21_tile,throngref21_id,hu,hd,e0 _ (z0 _ _ _ _ _ _ _ _),e0 _ (z1 _ _ _ _ _ _ _ _),bsome,bifc,bifq]
    refine fin ?_
    cases c
    simp only [Cmd.mk.injEq,Bool.and_eq_true,decide_eq_true_eq,hu0] at k7 ⊢
    subst k7
    constructor
    · rintro ⟨⟨⟨⟨⟨⟨h1,h2⟩,h3⟩,h4⟩,h5⟩,h6⟩,h7⟩
      subst_vars
      simp only [true_and,and_true] at *
      first | omega | (simp_all; done) | (simp_all; omega)
    · intro h
      clear hu hd e0 z0 z1 p0 hut hdt fin
      simp only [eq_comm (a:=(0:Int)),eq_comm (a:=(⟨0,0⟩:Vec)),eq_comm (a:=([]:List Int))] at h ⊢
      first | (simp_all; done) | (simp_all; omega)
  · simp only [k1,k2,k3,k4,k5,k6,k7,if_true,if_false,reduceIte,command_within,throngref0_Num,bsome,bifc,bifq]
    refine fin ?_
    simp
end Go.Proofs.YtmngdgclldkcfaaGreat
set_option linter.unusedVariables false
set_option linter.unusedSimpArgs false
namespace Go.Proofs.YtmngdgclldkcfaaGreat
open Go.Vg Go.Lib
def cmdOk (c:Cmd):Bool:=(command_May c).getD false
theorem mayC_p {c:Cmd} (h:CmdS c):command_May c = some (cmdOk c)∧throngref21_Command c = some (cmdOk c):=by
  obtain ⟨b,e1,e2⟩:=mayC_same h
  unfold cmdOk
  rw [e1,e2]; exact ⟨rfl,rfl⟩
def SaidOk (p:Int) (l:List Cmd):Prop:=(l.length:Int) ≤ 64∧∀ v:Int,0 ≤ v→v < l.length→(cmdOk (gi l v) = true∧(gi l v).player = p)∧(0 < v→(gi l (v - 1)).seq < (gi l v).seq)
theorem said_b {p:Int} {l:List Cmd} (hl:l.length ≤ 1000000) (hs:∀ c ∈ l,CmdS c):Bo (turns_Said p l) (SaidOk p l):=by
  unfold turns_Said
  refine Ok.bind (scanOk (a:=0) (n:=l.length) (fun v=>(cmdOk (gi l v) = true∧(gi l v).player = p)∧(0 < v→(gi l (v - 1)).seq < (gi l v).seq)) (fun r=>r = false∧¬ SaidOk p l) (by omega) (fun v v0 v1 _=>?_) (fun v v0 v1=>by rw [if_neg (by omega)])) ?_
  · rw [if_pos v1]
    refine Ok.gd ⟨v0,v1⟩ ?_
    rw [(mayC_p (hs _ (gi_mem ⟨v0,v1⟩))).1,bsome]
    refine Ok.gd (fun _ _=>by unfold I64; omega) (Ok.gd (fun _ h=>⟨by omega,by omega⟩) (Ok.ite (fun h=>Ok.ret ⟨rfl,fun hu=>?_⟩) (fun h=>Ok.gd (by unfold I64; omega) (Ok.ret ⟨rfl,?_⟩))))
    · have h2:=hu.2 v v0 v1
      rcases h with (h | h) | h
      · rw [h2.1.1] at h; simp at h
      · exact h h2.1.2
      · have:=h2.2 h.1; omega
    · refine ⟨⟨?_,?_⟩,fun hv=>?_⟩
      · cases hc:cmdOk (gi l v) with
        | true=>rfl
        | false=>exact absurd (.inl (.inl (by rw [hc]; rfl))) h
      · apply Classical.byContradiction; intro hc; exact h (.inl (.inr hc))
      · apply Classical.byContradiction; intro hc; exact h (.inr ⟨hv,by omega⟩)
  · rintro (_ | _) hx
    · exact Bo.dec ⟨fun h=>⟨h,hx⟩,fun h=>h.1⟩
    · exact Ok.ret ⟨fun e=>(by rw [hx.1] at e; cases e),fun h=>absurd h hx.2⟩
def InpOk (i:Inp):Prop:=((((0 ≤ i.turn)∧(i.turn ≤ 1099511627776))∧(1 ≤ i.player))∧(i.player ≤ 8))∧SaidOk i.player i.commands
theorem mayI_b {i:Inp} (h:InpS i):Bo (turns_May i) (InpOk i):=by
  obtain ⟨b,e,hb⟩:=said_b (p:=i.player) h.1 h.2
  unfold turns_May
  rw [e,bifp]
  refine Ok.ret ?_
  rw [Bool.and_eq_true,decide_eq_true_eq,hb]; rfl
theorem compare_p (x y:Int):cmp_Compare x y = some (Lib.compareInt x y):=by
  have hn:∀ z:Int,cmp_isNaN z = some false:=fun z=>by unfold cmp_isNaN; simp
  unfold cmp_Compare Lib.compareInt
  rw [hn,hn,bsome,bsome,if_neg (by simp),if_neg (by simp)]
  by_cases h1:x < y
  · rw [if_pos h1,if_pos h1]
  · rw [if_neg h1,if_neg h1]
    by_cases h2:y < x
    · rw [if_pos h2,if_pos h2]
    · rw [if_neg h2,if_neg h2]
theorem or_p (x y:Int):cmp_Or [x,y] = some (orI x y):=by
  unfold cmp_Or orI
  refine Ok.eq (Ok.bind (R:=fun r:Ex Unit Int=>r = if x = 0 then (if y = 0 then Ex.go () else Ex.up y) else Ex.up x) (Ok.loop (fun v:Int=>(v = 0) ∨ (v = 1∧x = 0) ∨ (v = 2∧x = 0∧y = 0)) (fun v=>(2 - v).toNat) (.inl rfl) (by unfold FUEL; simp) ?_) ?_)
  · rintro v (rfl | ⟨rfl,hx⟩ | ⟨rfl,hx,hy⟩)
    · rw [if_pos (by simp),if_pos (by simp)]
      show Ok (if ¬ x = 0 then _ else _) _
      refine Ok.ite (fun h=>Ok.ret ?_) (fun h=>Ok.gd (by unfold I64; omega) (Ok.ret ⟨.inr (.inl ⟨rfl,by omega⟩),by decide⟩))
      show Ex.up x = _
      rw [if_neg h]
    · rw [if_pos (by simp),if_pos (by simp)]
      show Ok (if ¬ y = 0 then _ else _) _
      refine Ok.ite (fun h=>Ok.ret ?_) (fun h=>Ok.gd (by unfold I64; omega) (Ok.ret ⟨.inr (.inr ⟨rfl,hx,by omega⟩),by decide⟩))
      show Ex.up y = _
      rw [if_pos hx,if_neg h]
    · rw [if_neg (by simp)]
      refine Ok.ret ?_
      show Ex.go () = _
      rw [if_pos hx,if_pos hy]
  · rintro r rfl
    by_cases hx:x = 0
    · by_cases hy:y = 0
      · rw [if_pos hx,if_pos hy]; exact Ok.ret (by rw [if_pos hx,hy])
      · rw [if_pos hx,if_neg hy]; exact Ok.ret (by rw [if_pos hx])
    · rw [if_neg hx]; exact Ok.ret (by rw [if_neg hx])
def lessI (a b:Inp):Int:=orI (Lib.compareInt a.turn b.turn) (Lib.compareInt a.player b.player)
theorem less_p (a b:Inp):turns_less a b = some (lessI a b):=by
  unfold turns_less
  rw [compare_p,compare_p,bsome,bsome,or_p]; rfl
theorem lessI_lt (a b:Inp):lessI a b < 0 ↔ InLt a b:=orI_lt _ _ _ _
theorem lessI_eq (a b:Inp):lessI a b = 0 ↔ a.turn = b.turn∧a.player = b.player:=by
  unfold lessI orI Lib.compareInt
  by_cases h1:a.turn < b.turn
  · simp [h1]; omega
  · by_cases h2:b.turn < a.turn
    · simp [h1,h2]; omega
    · have h3:a.turn = b.turn:=by omega
      by_cases h4:a.player < b.player
      · simp [h1,h2,h4]; omega
      · by_cases h5:b.player < a.player
        · simp [h1,h2,h4,h5]; omega
        · simp [h1,h2,h4,h5]; omega
theorem InLt.trans {a b c:Inp} (h:InLt a b) (k:InLt b c):InLt a c:=by unfold InLt at *; omega
theorem InLt.key {a b:Inp}:(¬ InLt a b∧¬ InLt b a) ↔ (a.turn = b.turn∧a.player = b.player):=by unfold InLt; omega
def ListOk (l:List Inp):Prop:=∀ v:Int,0 ≤ v→v < l.length→InpOk (gi l v)∧(0 < v→InLt (gi l (v - 1)) (gi l v))
theorem rising_b {l:List Inp} (h:InpsS l):Bo (turns_Rising l) (ListOk l):=by
  have hl:=h.1
  unfold turns_Rising
  refine scanBo (a:=0) (n:=l.length) (fun v=>InpOk (gi l v)∧(0 < v→InLt (gi l (v - 1)) (gi l v))) (by omega) (fun v v0 v1 _=>?_) (fun v v0 v1=>by rw [if_neg (by omega)])
  rw [if_pos v1]
  obtain ⟨b,e,hb⟩:=mayI_b (h.2 _ (gi_mem ⟨v0,v1⟩))
  refine Ok.gd ⟨v0,v1⟩ (Ok.bindE e ?_)
  refine Ok.bind (R:=fun r=>r = true ↔ ¬ (InpOk (gi l v)∧(0 < v→InLt (gi l (v - 1)) (gi l v)))) (Ok.ite (fun hn=>Ok.ret ⟨fun _ hc=>?_,fun _=>rfl⟩) (fun hn=>?_)) (fun r hr=>?_)
  · rw [hb.2 hc.1] at hn; simp at hn
  · have hin:InpOk (gi l v):=hb.1 (by simpa using hn)
    refine Ok.bind (R:=fun r=>r = true ↔ ¬ (InpOk (gi l v)∧(0 < v→InLt (gi l (v - 1)) (gi l v)))) (Ok.ite (fun hv=>?_) (fun hv=>?_)) (fun r hr=>Ok.ret hr)
    · refine Ok.gd (by unfold I64; omega) (Ok.gd ⟨by omega,by omega⟩ (Ok.bindE (less_p _ _) (Ok.ret ?_)))
      rw [decide_eq_true_iff]
      have:=lessI_lt (gi l (v - 1)) (gi l v)
      constructor
      · intro h1 h2; have:=this.2 (h2.2 hv); omega
      · intro h1; apply Classical.byContradiction; intro h2; exact h1 ⟨hin,fun _=>this.1 (by omega)⟩
    · exact Ok.ret ⟨fun e=>by (cases e),fun h=>absurd ⟨hin,fun h2=>absurd h2 hv⟩ h⟩
  · refine Ok.ite (fun h1=>Ok.ret ⟨rfl,hr.1 h1⟩) (fun h1=>Ok.gd (by unfold I64; omega) (Ok.ret ⟨rfl,?_⟩))
    apply Classical.byContradiction; intro h2; exact h1 (hr.2 h2)
theorem ListOk.iff {l:List Inp}:ListOk l ↔ (∀ x ∈ l,InpOk x)∧l.Pairwise InLt:=by
  constructor
  · intro h
    refine ⟨fun x hx=>?_,?_⟩
    · obtain ⟨i,h0,h1,rfl⟩:=gi_mem2.1 hx
      exact (h i h0 h1).1
    · have key:∀ d:Nat,∀ i:Int,0 ≤ i→i + 1 + d < l.length→InLt (gi l i) (gi l (i + 1 + d)):=by
        intro d
        induction d with
        | zero=>intro i h0 h1; have:=(h (i + 1) (by omega) (by omega)).2 (by omega); simpa using this
        | succ d ih =>
          intro i h0 h1
          have h2:=ih i h0 (by omega)
          have h3:=(h (i + 1 + (d + 1:Nat)) (by omega) (by omega)).2 (by omega)
          rw [show i + 1 + ((d + 1:Nat):Int) - 1 = i + 1 + (d:Int) by omega] at h3
          exact h2.trans h3
      rw [List.pairwise_iff_getElem]
      intro i j hi hj hij
      have:=key (j - i - 1) (i:Int) (by omega) (by omega)
      rw [show (i:Int) + 1 + ((j - i - 1:Nat):Int) = (j:Int) by omega] at this
      simpa [gi,List.getD,hi,hj] using this
  · rintro ⟨h1,h2⟩ v v0 v1
    refine ⟨h1 _ (gi_mem ⟨v0,v1⟩),fun hv=>?_⟩
    rw [List.pairwise_iff_getElem] at h2
    have hi:(v - 1).toNat < l.length:=by omega
    have hj:v.toNat < l.length:=by omega
    have:=h2 _ _ hi hj (by omega)
    have e1:gi l v = l[v.toNat]:=by simp [gi,List.getD,hj]
    have e2:gi l (v - 1) = l[(v - 1).toNat]:=by unfold gi; rw [List.getD_eq_getElem?_getD,List.getElem?_eq_getElem hi]; rfl
    rw [e1,e2]; exact this
def Has (l:List Inp) (x:Inp):Prop:=∃ y ∈ l,y.turn = x.turn∧y.player = x.player
def cutI:List Inp→Inp→Nat
  | [],_=>0
  | y :: l,x=>if InLt y x then cutI l x + 1 else 0
theorem cut_le (x:Inp):∀ l:List Inp,cutI l x ≤ l.length
  | []=>Nat.le_refl _
  | y :: l=>by
    unfold cutI
    have:=cut_le x l
    split <;> simp <;> omega
theorem cut_ltN (x:Inp):∀ (l:List Inp) (j:Nat),j < cutI l x→InLt (l.getD j default) x
  | [],j,h=>by simp [cutI] at h
  | y :: l,j,h=>by
    unfold cutI at h
    split at h
    · rename_i hy
      cases j with
      | zero=>exact hy
      | succ j=>exact cut_ltN x l j (by omega)
    · omega
theorem cut_atN (x:Inp):∀ (l:List Inp),cutI l x < l.length→¬ InLt (l.getD (cutI l x) default) x
  | [],h=>by simp at h
  | y :: l,h=>by
    unfold cutI at h ⊢
    by_cases hy:InLt y x
    · rw [if_pos hy] at h ⊢
      exact cut_atN x l (by simpa using h)
    · rw [if_neg hy]; exact hy
theorem cut_lt {l:List Inp} {x:Inp} {v:Int} (v0:0 ≤ v) (v1:v < cutI l x):InLt (gi l v) x:=cut_ltN x l v.toNat (by omega)
theorem cut_at {l:List Inp} {x:Inp} (h:cutI l x < l.length):¬ InLt (gi l (cutI l x)) x:=by
  have:=cut_atN x l h
  unfold gi
  rwa [Int.toNat_natCast]
theorem ListOk.lt {l:List Inp} (h:l.Pairwise InLt) {i j:Int} (h0:0 ≤ i) (hij:i < j) (hj:j < l.length):InLt (gi l i) (gi l j):=by
  rw [List.pairwise_iff_getElem] at h
  have hi':i.toNat < l.length:=by omega
  have hj':j.toNat < l.length:=by omega
  have:=h _ _ hi' hj' (by omega)
  have e1:gi l j = l[j.toNat]:=by unfold gi; rw [List.getD_eq_getElem?_getD,List.getElem?_eq_getElem hj']; rfl
  have e2:gi l i = l[i.toNat]:=by unfold gi; rw [List.getD_eq_getElem?_getD,List.getElem?_eq_getElem hi']; rfl
  rw [e1,e2]; exact this
theorem cut_uniq {l:List Inp} {x:Inp} (hp:l.Pairwise InLt) {v:Int} (v0:0 ≤ v) (v1:v ≤ l.length) (ha:∀ u,0 ≤ u→u < v→InLt (gi l u) x) (hb:v < l.length→¬ InLt (gi l v) x):v = cutI l x:=by
  have h1:=cut_le x l
  rcases Int.lt_trichotomy v (cutI l x:Int) with h | h | h
  · exact absurd (cut_lt v0 h) (hb (by omega))
  · exact h
  · exact absurd (ha _ (by omega) h) (cut_at (by omega))
theorem has_iff {l:List Inp} {x:Inp} (hp:l.Pairwise InLt):Has l x ↔ (cutI l x < l.length∧¬ InLt x (gi l (cutI l x))):=by
  constructor
  · rintro ⟨y,hy,hk⟩
    obtain ⟨i,h0,h1,rfl⟩:=gi_mem2.1 hy
    have hn:=InLt.key.2 hk
    have:i = cutI l x:=cut_uniq hp h0 (by omega) (fun u u0 u1=>by have:=ListOk.lt hp u0 u1 h1; unfold InLt at *; omega) (fun _=>hn.1)
    rw [← this]
    exact ⟨by omega,hn.2⟩
  · rintro ⟨h1,h2⟩
    exact ⟨_,gi_mem ⟨by omega,by omega⟩,InLt.key.1 ⟨cut_at h1,h2⟩⟩
def insI (l:List Inp) (x:Inp):List Inp:=l.take (cutI l x) ++ x :: l.drop (cutI l x)
theorem insI_len (l:List Inp) (x:Inp):(insI l x).length = l.length + 1:=by
  have:=cut_le x l
  unfold insI
  simp; omega
theorem insI_perm (l:List Inp) (x:Inp):(insI l x).Perm (x :: l):=by
  unfold insI
  refine List.perm_middle.trans ?_
  rw [List.take_append_drop]
theorem insI_pair {l:List Inp} {x:Inp} (hp:l.Pairwise InLt) (hn:¬ Has l x):(insI l x).Pairwise InLt:=by
  have hc:=cut_le x l
  have h1:∀ y ∈ l.take (cutI l x),InLt y x:=fun y hy=>by
    obtain ⟨i,h0,hi,rfl⟩:=gi_mem2.1 hy
    rw [List.length_take] at hi
    have:gi (l.take (cutI l x)) i = gi l i:=by
      unfold gi
      rw [List.getD_eq_getElem?_getD,List.getD_eq_getElem?_getD,List.getElem?_take_of_lt (by omega)]
    rw [this]
    exact cut_lt h0 (by omega)
  have h2:∀ y ∈ l.drop (cutI l x),InLt x y:=fun y hy=>by
    obtain ⟨i,h0,hi,rfl⟩:=gi_mem2.1 hy
    rw [List.length_drop] at hi
    have e:gi (l.drop (cutI l x)) i = gi l (cutI l x + i):=by
      unfold gi
      rw [List.getD_eq_getElem?_getD,List.getD_eq_getElem?_getD,List.getElem?_drop,show ((cutI l x:Int) + i).toNat = cutI l x + i.toNat by omega]
    rw [e]
    have hlt:cutI l x < l.length:=by omega
    have h3:InLt x (gi l (cutI l x)):=Classical.byContradiction fun h=>hn ((has_iff hp).2 ⟨hlt,h⟩)
    by_cases hi0:i = 0
    · subst hi0; simpa using h3
    · exact h3.trans (ListOk.lt hp (by omega) (by omega) (by omega))
  unfold insI
  rw [List.pairwise_append,List.pairwise_cons]
  refine ⟨hp.sublist (List.take_sublist _ _),⟨h2,hp.sublist (List.drop_sublist _ _)⟩,fun a ha b hb=>?_⟩
  rcases List.mem_cons.1 hb with rfl | hb
  · exact h1 a ha
  · exact (h1 a ha).trans (h2 b hb)
theorem search_p {l:List Inp} {x:Inp} (hl:l.length ≤ 1000000) (hp:l.Pairwise InLt):Ok (slices_BinarySearchFuncI l x (fun (y0,y1)=>turns_less y0 y1)) fun r=>r.1 = cutI l x∧(r.2 = true ↔ Has l x):=by
  have hc:=cut_le x l
  unfold slices_BinarySearchFuncI
  refine Ok.bind (R:=fun v:Int=>v = cutI l x) (Ok.loop (fun z:Int × Int=>(0 ≤ z.1∧z.1 ≤ z.2∧z.2 ≤ l.length)∧z.1 ≤ cutI l x∧(cutI l x:Int) ≤ z.2) (fun z=>(z.2 - z.1).toNat) ⟨by simp,by simp,by simpa using hc⟩ (by unfold FUEL; simp; omega) ?_) ?_
  · rintro ⟨i,j⟩ ⟨⟨h0,h1,h2⟩,h3,h4⟩
    dsimp only at h0 h1 h2 h3 h4 ⊢
    refine Ok.ite (fun hlt=>?_) (fun hlt=>Ok.ret (by show i = _; omega))
    obtain ⟨m,hm⟩:∃ m,m = (i + j) % 18446744073709551616 / 2:=⟨_,rfl⟩
    have hm2:m = (i + j) / 2:=by rw [hm,Int.emod_eq_of_lt (by omega) (by omega)]
    rw [← hm]
    refine Ok.gd (by unfold I64; omega) (Ok.gd (Int.emod_nonneg _ (by decide)) (Ok.gd (by unfold I64; omega) (Ok.gd (by omega) ?_)))
    show Ok (Option.bind (turns_less (gi l m) x) _) _
    rw [less_p,bsome]
    refine Ok.ite (fun hs=>?_) (fun hs=>?_)
    · have hs:=(lessI_lt _ _).1 hs
      refine Ok.gd (by unfold I64; omega) (Ok.ret ⟨⟨⟨by show 0 ≤ m + 1; omega,by show m + 1 ≤ j; omega,h2⟩,?_,h4⟩,by show (j - (m + 1)).toNat < (j - i).toNat; omega⟩)
      show m + 1 ≤ _
      apply Classical.byContradiction; intro hn
      have hcm:(cutI l x:Int) ≤ m:=by omega
      refine cut_at (l:=l) (x:=x) (by omega) ?_
      by_cases e:(cutI l x:Int) = m
      · rw [e]; exact hs
      · exact (ListOk.lt hp (by omega) (by omega:(cutI l x:Int) < m) (by omega)).trans hs
    · refine Ok.ret ⟨⟨⟨h0,by show i ≤ m; omega,by show m ≤ _; omega⟩,h3,?_⟩,by show (m - i).toNat < (j - i).toNat; omega⟩
      show (cutI l x:Int) ≤ m
      apply Classical.byContradiction; intro hn
      exact hs ((lessI_lt _ _).2 (cut_lt (by omega) (by omega)))
  · rintro v rfl
    by_cases hlt:(cutI l x:Int) < l.length
    · rw [if_pos hlt,if_pos (by omega)]
      show Ok (Option.bind (Option.bind (turns_less (gi l (cutI l x)) x) _) _) _
      rw [less_p,bsome,bsome]
      refine Ok.ret ⟨rfl,?_⟩
      show decide (lessI (gi l (cutI l x)) x = 0) = true ↔ _
      rw [decide_eq_true_iff,lessI_eq,has_iff hp,← InLt.key]
      exact ⟨fun h=>⟨by omega,h.2⟩,fun h=>⟨cut_at h.1,h.2⟩⟩
    · rw [if_neg hlt,bsome]
      refine Ok.ret ⟨rfl,?_⟩
      show false = true ↔ _
      rw [has_iff hp]
      exact ⟨fun h=>by (cases h),fun h=>absurd h.1 (by omega)⟩
theorem in_p {l:List Inp} {x:Inp} (h:InpsS l) (hx:InpS x) (hp:l.Pairwise InLt):(Has l x→turns_In l x = some ([],false))∧(¬ Has l x→turns_In l x = some (insI l x,true)):=by
  have hl:=h.1
  have hc:=cut_le x l
  obtain ⟨⟨k,b⟩,e,h1,h2⟩:=search_p (x:=x) hl hp
  dsimp only at h1 h2
  subst h1
  unfold turns_In
  rw [e,bsome]
  dsimp only
  constructor
  · intro hh; rw [if_pos (h2.2 hh)]
  · intro hh
    rw [if_neg (fun e=>hh (h2.1 e)),ownIs_p h,bsome,ownI_p hx,bsome]
    unfold slices_InsertI
    rw [if_pos ⟨rfl,by omega,by omega⟩,bsome,Int.toNat_natCast]
    unfold insI
    rw [List.append_assoc]; rfl
theorem part_p {l:List Inp} (h:InpsS l) (t:Int):turns_Part l t = some (l.filter fun i=>decide (i.turn = t),l.filter fun i=>!decide (i.turn = t)):=by
  have hl:=h.1
  unfold turns_Part
  refine Ok.eq (Ok.bind (R:=fun x=>x = (l.filter (fun i=>decide (i.turn = t)),l.filter fun i=>!decide (i.turn = t))) (Ok.loop (fun z:List Inp × List Inp × Int=>(0 ≤ z.2.2∧z.2.2 ≤ l.length)∧z.1 = (l.take z.2.2.toNat).filter (fun i=>decide (i.turn = t))∧z.2.1 = (l.take z.2.2.toNat).filter fun i=>!decide (i.turn = t)) (fun z=>(l.length - z.2.2).toNat) ⟨by simp,by simp,by simp⟩ (by unfold FUEL; simp; omega) ?_) (fun x hx=>Ok.ret hx))
  rintro ⟨a,b,v⟩ ⟨⟨v0,v1⟩,ha,hb⟩
  dsimp only at v0 v1 ha hb ⊢
  have ha':a.length ≤ 1000000:=by rw [ha]; exact Nat.le_trans (List.length_filter_le _ _) (by rw [List.length_take]; omega)
  have hb':b.length ≤ 1000000:=by rw [hb]; exact Nat.le_trans (List.length_filter_le _ _) (by rw [List.length_take]; omega)
  refine Ok.ite (fun hlt=>Ok.gd ⟨v0,hlt⟩ ?_) (fun hlt=>Ok.ret ?_)
  · have hnx:=take_nextV (s:=l) (i:=v) ⟨v0,hlt⟩
    rw [ownI_p (h.2 _ (gi_mem ⟨v0,hlt⟩))]
    refine Ok.ite (fun ht=>?_) (fun ht=>?_)
    · rw [bsome]
      refine Ok.gd (by omega) (Ok.gd (by unfold I64; omega) (Ok.ret ⟨⟨⟨by show 0 ≤ v + 1; omega,by show v + 1 ≤ _; omega⟩,?_,?_⟩,by show (l.length - (v + 1)).toNat < _; omega⟩))
      · show _ = (l.take (v + 1).toNat).filter _
        rw [hnx,List.filter_append,← ha]; simp [ht]
      · show _ = (l.take (v + 1).toNat).filter _
        rw [hnx,List.filter_append,← hb]; simp [ht]
    · rw [bsome]
      refine Ok.gd (by omega) (Ok.gd (by unfold I64; omega) (Ok.ret ⟨⟨⟨by show 0 ≤ v + 1; omega,by show v + 1 ≤ _; omega⟩,?_,?_⟩,by show (l.length - (v + 1)).toNat < _; omega⟩))
      · show _ = (l.take (v + 1).toNat).filter _
        rw [hnx,List.filter_append,← ha]; simp [ht]
      · show _ = (l.take (v + 1).toNat).filter _
        rw [hnx,List.filter_append,← hb]; simp [ht]
  · have:v = l.length:=by omega
    subst this
    rw [ha,hb]; simp
end Go.Proofs.YtmngdgclldkcfaaGreat
set_option linter.unusedVariables false
set_option linter.unusedSimpArgs false
namespace Go.Proofs.YtmngdgclldkcfaaGreat
open Go.Vg Go.Lib
def KD (l:List Inp):Prop:=l.Pairwise fun a b=>¬ (a.turn = b.turn∧a.player = b.player)
theorem all_p {l:List Inp} (h:InpsS l):turns_All l = some (l.flatMap (·.commands)):=by
  have hl:=h.1
  unfold turns_All
  refine Ok.eq (Ok.bind (R:=fun x=>x = l.flatMap (·.commands)) (Ok.loop (fun z:List Cmd × Int=>(0 ≤ z.2∧z.2 ≤ l.length)∧z.1 = (l.take z.2.toNat).flatMap (·.commands)∧(z.1.length:Int) ≤ 1000000 * z.2) (fun z=>(l.length - z.2).toNat) ⟨by simp,by simp,by simp⟩ (by unfold FUEL; simp; omega) ?_) (fun x hx=>Ok.ret hx))
  rintro ⟨a,v⟩ ⟨⟨v0,v1⟩,ha,hb⟩
  dsimp only at v0 v1 ha hb ⊢
  refine Ok.ite (fun hlt=>Ok.gd ⟨v0,hlt⟩ ?_) (fun hlt=>Ok.ret ?_)
  · have hI:=h.2 _ (gi_mem ⟨v0,hlt⟩)
    have hI1:=hI.1
    rw [ownCs_p hI.1 hI.2,bsome]
    refine Ok.gd (by omega) (Ok.gd (by unfold I64; omega) (Ok.ret ⟨⟨⟨by show 0 ≤ v + 1; omega,by show v + 1 ≤ _; omega⟩,?_,?_⟩,by show (l.length - (v + 1)).toNat < _; omega⟩))
    · show _ = (l.take (v + 1).toNat).flatMap _
      rw [take_nextV ⟨v0,hlt⟩,List.flatMap_append,← ha]; simp
    · show ((a ++ _).length:Int) ≤ 1000000 * (v + 1)
      rw [List.length_append]; omega
  · have:v = l.length:=by omega
    subst this
    rw [ha]; simp
end Go.Proofs.YtmngdgclldkcfaaGreat
set_option linter.unusedVariables false
set_option linter.unusedSimpArgs false
namespace Go.Proofs.YtmngdgclldkcfaaGreat
open Go.Vg Go.Lib
def CmdG (c:Cmd):Prop:=c.units.length ≤ 140737488351232
def InpG (i:Inp):Prop:=i.commands.length ≤ 140737488351232∧∀ c ∈ i.commands,CmdG c
theorem Inp.Wf.G {i:Inp} (h:Inp.Wf i):InpG i:=⟨h.2.2.2,fun c hc=>(h.2.2.1 c hc).2.2.2.2.1.2⟩
end Go.Proofs.YtmngdgclldkcfaaGreat
set_option linter.unusedVariables false
set_option linter.unusedSimpArgs false
namespace Go.Proofs.YtmngdgclldkcfaaGreat
open Go.Vg
open Go
def IsMin (l:List Int) (m:Int):Prop:=(∃ v:Int,(0 ≤ v∧v < l.length)∧gi l v = m)∧∀ v:Int,0 ≤ v→v < l.length→m ≤ gi l v
def IsMax (l:List Int) (m:Int):Prop:=(∃ v:Int,(0 ≤ v∧v < l.length)∧gi l v = m)∧∀ v:Int,0 ≤ v→v < l.length→gi l v ≤ m
theorem IsMin.uniq {l:List Int} {m n:Int} (h:IsMin l m) (k:IsMin l n):m = n:=by
  obtain ⟨⟨v,hv,e⟩,h2⟩:=h
  obtain ⟨⟨u,hu,f⟩,k2⟩:=k
  have a:=h2 u hu.1 hu.2
  have b:=k2 v hv.1 hv.2
  omega
theorem min_p {l:List Int} (h0:0 < l.length) (hl:l.length ≤ 1000000):Ok (slices_Min l) (IsMin l):=by
  unfold slices_Min
  rw [if_neg (by omega),Option.bind_some]
  refine Ok.gd ⟨by omega,by omega⟩ (Ok.bind (R:=IsMin l) (Ok.loop (fun z:Int × Int=>(1 ≤ z.2∧z.2 ≤ l.length)∧(∃ v:Int,(0 ≤ v∧v < z.2)∧gi l v = z.1)∧∀ v:Int,0 ≤ v→v < z.2→z.1 ≤ gi l v) (fun z=>(l.length - z.2).toNat) ⟨⟨by show (1:Int) ≤ 1; omega,by show (1:Int) ≤ _; omega⟩,⟨0,by omega,rfl⟩,fun v v0 v1=>by
    have:v = 0:=by dsimp only at v1; omega
    subst this; exact Int.le_refl _⟩ (by unfold FUEL; dsimp only; omega) ?_) (fun x hx=>Ok.ret hx))
  rintro ⟨m,j⟩ ⟨⟨j0,j1⟩,⟨v,hv,e⟩,hm⟩
  dsimp only at j0 j1 hv e hm ⊢
  refine Ok.ite (fun hlt=>Ok.gd ⟨by omega,hlt⟩ (Ok.gd (by unfold I64; omega) (Ok.ret ⟨⟨⟨by show 1 ≤ j + 1; omega,by show j + 1 ≤ _; omega⟩,?_,?_⟩,by show (l.length - (j + 1)).toNat < (l.length - j).toNat; omega⟩))) (fun hlt=>Ok.ret ⟨⟨v,by omega,e⟩,fun u u0 u1=>hm u u0 (by omega)⟩)
  · by_cases hc:m ≤ gi l j
    · exact ⟨v,by dsimp only; omega,by rw [e]; show m = min m (gi l j); omega⟩
    · exact ⟨j,by dsimp only; omega,by show gi l j = min m (gi l j); omega⟩
  · intro u u0 u1
    dsimp only at u1
    show min m (gi l j) ≤ _
    by_cases hu:u = j
    · subst hu; omega
    · have:=hm u u0 (by omega); omega
theorem least_p {l:List Int} (h0:0 < l.length) (hl:l.length ≤ 1000000):Ok (throngref27_least l) (IsMin l):=by
  obtain ⟨m,hm,hi⟩:=min_p h0 hl
  have:throngref27_least l = slices_Min l:=by
    unfold slices_Min
    rw [if_neg (show ¬ (l.length:Int) < 1 by omega),Option.bind_some]
    rfl
  rw [this]
  exact ⟨m,hm,hi⟩
def minL (l:List Int):Int:=(slices_Min l).getD 0
theorem min_e {l:List Int} (h0:0 < l.length) (hl:l.length ≤ 1000000):slices_Min l = some (minL l)∧throngref27_least l = some (minL l)∧IsMin l (minL l):=by
  obtain ⟨m,hm,hi⟩:=min_p h0 hl
  obtain ⟨n,hn,hj⟩:=least_p h0 hl
  have e:minL l = m:=by unfold minL; rw [hm]; rfl
  rw [e,hm,hn,hj.uniq hi]
  exact ⟨rfl,rfl,hi⟩
theorem minL_of {l:List Int} {m:Int} (hl:l.length ≤ 1000000) (h:IsMin l m):minL l = m:=by
  obtain ⟨v,hv,_⟩:=h.1
  exact (min_e (by omega) hl).2.2.uniq h
theorem max_p {l:List Int} (h0:0 < l.length) (hl:l.length ≤ 1000000):Ok (slices_MaxI l) (IsMax l):=by
  unfold slices_MaxI
  rw [if_neg (by omega),Option.bind_some]
  refine Ok.gd ⟨by omega,by omega⟩ (Ok.bind (R:=IsMax l) (Ok.loop (fun z:Int × Int=>(1 ≤ z.2∧z.2 ≤ l.length)∧(∃ v:Int,(0 ≤ v∧v < z.2)∧gi l v = z.1)∧∀ v:Int,0 ≤ v→v < z.2→gi l v ≤ z.1) (fun z=>(l.length - z.2).toNat) ⟨⟨by show (1:Int) ≤ 1; omega,by show (1:Int) ≤ _; omega⟩,⟨0,by omega,rfl⟩,fun v v0 v1=>by
    have:v = 0:=by dsimp only at v1; omega
    subst this; exact Int.le_refl _⟩ (by unfold FUEL; dsimp only; omega) ?_) (fun x hx=>Ok.ret hx))
  rintro ⟨m,j⟩ ⟨⟨j0,j1⟩,⟨v,hv,e⟩,hm⟩
  dsimp only at j0 j1 hv e hm ⊢
  refine Ok.ite (fun hlt=>Ok.gd ⟨by omega,hlt⟩ (Ok.gd (by unfold I64; omega) (Ok.ret ⟨⟨⟨by show 1 ≤ j + 1; omega,by show j + 1 ≤ _; omega⟩,?_,?_⟩,by show (l.length - (j + 1)).toNat < (l.length - j).toNat; omega⟩))) (fun hlt=>Ok.ret ⟨⟨v,by omega,e⟩,fun u u0 u1=>hm u u0 (by omega)⟩)
  · by_cases hc:gi l j ≤ m
    · exact ⟨v,by dsimp only; omega,by rw [e]; show m = max m (gi l j); omega⟩
    · exact ⟨j,by dsimp only; omega,by show gi l j = max m (gi l j); omega⟩
  · intro u u0 u1
    dsimp only at u1
    show _ ≤ max m (gi l j)
    by_cases hu:u = j
    · subst hu; omega
    · have:=hm u u0 (by omega); omega
theorem Nb.or {c:Prop} [Decidable c] {m:Option Bool} {q:Prop} (hm:¬ c→Bo m q):Ok (if c then some true else Option.bind m fun x=>some (!x)) fun b=>b = true ↔ ¬ (¬ c∧q):=by
  by_cases h:c
  · rw [if_pos h]; exact Ok.ret ⟨fun _ k=>k.1 h,fun _=>rfl⟩
  · rw [if_neg h]
    obtain ⟨r,e,hr⟩:=hm h
    rw [e]
    refine Ok.ret ?_
    cases r with
    | true=>simp [h,hr.1 rfl]
    | false =>
      have:¬ q:=fun k=>by have:=hr.2 k; cases this
      simp [this]
theorem Nb.orB {b0:Bool} {C:Prop} {m:Option Bool} {q:Prop} (hb:b0 = true ↔ ¬ C) (hm:C→Bo m q):Ok (if b0 = true then some true else Option.bind m fun x=>some (!x)) fun b=>b = true ↔ ¬ (C∧q):=by
  refine Ok.mono (Nb.or (c:=b0 = true) (m:=m) (q:=q) (fun h=>hm (Classical.byContradiction fun k=>h (hb.2 k)))) fun b e=>?_
  rw [e]
  constructor
  · intro h k; exact h ⟨fun x=>hb.1 x k.1,k.2⟩
  · intro h k; exact h ⟨Classical.byContradiction fun x=>k.1 (hb.2 x),k.2⟩
theorem Nb.not {b0:Bool} {C:Prop} (hb:b0 = true ↔ ¬ C) (h:¬ b0 = true):C:=Classical.byContradiction fun x=>h (hb.2 x)
theorem bId {m:Option Bool} {p:Prop} (h:Bo m p):Bo (Option.bind m fun x=>some x) p:=by
  obtain ⟨r,e,hr⟩:=h
  rw [e]; exact Ok.ret hr
theorem bAnd {c:Prop} [Decidable c] {m:Option Bool} {p:Prop} (h:c→Bo m p):Bo (if c then Option.bind m fun x=>some x else some false) (c∧p):=by
  by_cases hc:c
  · rw [if_pos hc]; exact (bId (h hc)).iff ⟨fun k=>⟨hc,k⟩,fun k=>k.2⟩
  · rw [if_neg hc]; exact Ok.ret ⟨fun e=>(by cases e),fun k=>absurd k.1 hc⟩
structure PerS (p:Per):Prop where
  mine:InpsS p.mine
  inputs:InpsS p.inputs
  has:p.has.length ≤ 1000000
  acked:p.acked.length ≤ 1000000
  hashes:p.hashes.length ≤ 1000000
structure Val (p:Per):Prop where
  pl:1 ≤ p.players∧p.players ≤ 8
  id:1 ≤ p.id∧p.id ≤ p.players
  dl:1 ≤ p.delay∧p.delay ≤ 8
  tn:0 ≤ p.turn∧p.turn ≤ 1099511627776
  sd:p.delay - 1 ≤ p.said∧p.said ≤ p.turn + p.delay - 1∧p.said ≤ 1099511627776
  hl:(p.has.length:Int) = p.players
  al:(p.acked.length:Int) = p.players
  hv:∀ v:Int,0 ≤ v→v < p.players→p.delay - 1 ≤ gi p.has v∧p.turn - 1 ≤ gi p.has v∧gi p.has v ≤ p.turn + 16∧gi p.has v ≤ 1099511627776
  av:∀ v:Int,0 ≤ v→v < p.players→p.delay - 1 ≤ gi p.acked v∧gi p.acked v ≤ p.said
  hme:gi p.has (p.id - 1) = p.said
  ame:gi p.acked (p.id - 1) = p.said
  hs:(p.hashes.length:Int) ≤ 16∧(p.hashes.length:Int) ≤ p.turn
  inp:ListOk p.inputs
  iv:∀ v:Int,0 ≤ v→v < p.inputs.length→p.turn ≤ (gi p.inputs v).turn∧(gi p.inputs v).player ≤ p.players∧(gi p.inputs v).turn ≤ gi p.has ((gi p.inputs v).player - 1)
  ml:(p.mine.length:Int) = p.said - minL p.acked
  mv:∀ v:Int,0 ≤ v→v < p.mine.length→InpOk (gi p.mine v)∧(gi p.mine v).player = p.id∧(gi p.mine v).turn = minL p.acked + 1 + v
theorem Val.mn {p:Per} (h:Val p):IsMin p.acked (minL p.acked):=(min_e (by have:=h.al; have:=h.pl; omega) (by have:=h.al; have:=h.pl; omega)).2.2
theorem Val.low {p:Per} (h:Val p):p.delay - 1 ≤ minL p.acked∧minL p.acked ≤ p.said:=by
  obtain ⟨⟨v,hv,e⟩,_⟩:=h.mn
  have:=h.av v hv.1 (by have:=h.al; omega)
  omega
def CountsOk (p:Per) (l:List Int):Prop:=(∀ v:Int,0 ≤ v→v < l.length→p.delay - 1 ≤ gi l v∧gi l v ≤ p.turn + 16∧gi l v ≤ 1099511627776)∧(l.length:Int) = p.players∧gi l (p.id - 1) = p.said
theorem counts_b {p:Per} {l:List Int} (hl:l.length ≤ 1000000) (h1:1 ≤ p.players∧p.players ≤ 8) (h2:1 ≤ p.id∧p.id ≤ p.players) (h3:1 ≤ p.delay∧p.delay ≤ 8) (h4:0 ≤ p.turn∧p.turn ≤ 1099511627776):Bo (peer_counts p l) (CountsOk p l):=by
  unfold peer_counts
  refine Ok.bind (scanOk (a:=0) (n:=l.length) (fun v=>p.delay - 1 ≤ gi l v∧gi l v ≤ p.turn + 16∧gi l v ≤ 1099511627776) (fun r=>r = false∧¬ CountsOk p l) (by omega) (fun v v0 v1 _=>?_) (fun v v0 v1=>by rw [if_neg (by omega)])) ?_
  · rw [if_pos v1]
    refine Ok.gd ⟨v0,v1⟩ (Ok.gd (by unfold I64; omega) (Ok.gd (fun _=>by unfold I64; omega) (Ok.ite (fun h=>Ok.ret ⟨rfl,fun hu=>?_⟩) (fun h=>Ok.gd (by unfold I64; omega) (Ok.ret ⟨rfl,by omega⟩)))))
    have:=hu.1 v v0 v1
    omega
  · rintro (_ | _) hx
    · exact Ok.gd (fun _=>by unfold I64; omega) (Ok.gd (fun e=>by omega) (Bo.dec ⟨fun h=>⟨hx,h⟩,fun h=>h.2⟩))
    · exact Ok.ret ⟨fun e=>(by rw [hx.1] at e; cases e),fun h=>absurd h hx.2⟩
def MineOk (p:Per):Prop:=(p.mine.length:Int) = p.said - minL p.acked∧∀ v:Int,0 ≤ v→v < p.mine.length→InpOk (gi p.mine v)∧(gi p.mine v).player = p.id∧(gi p.mine v).turn = minL p.acked + 1 + v
theorem mine_b {p:Per} (hs:PerS p) (hp:0 < p.acked.length) (ha:∀ v:Int,0 ≤ v→v < p.acked.length→0 ≤ gi p.acked v∧gi p.acked v ≤ p.said) (h5:0 ≤ p.said∧p.said ≤ 1099511627776):Bo (peer_mine p) (MineOk p):=by
  obtain ⟨e1,_,⟨⟨v,hv,e⟩,_⟩⟩:=min_e hp hs.acked
  have hm:=ha v hv.1 hv.2
  rw [e] at hm
  have hml:=hs.mine.1
  unfold peer_mine
  rw [e1,bsome]
  refine Ok.gd (by unfold I64; omega) (Ok.ite (fun hn=>Ok.ret ⟨fun e=>(by cases e),fun k=>absurd k.1 hn⟩) (fun hn=>?_))
  have hn:=Decidable.not_not.1 hn
  refine (scanBo (a:=0) (n:=p.mine.length) (fun v=>InpOk (gi p.mine v)∧(gi p.mine v).player = p.id∧(gi p.mine v).turn = minL p.acked + 1 + v) (by omega) (fun v v0 v1 _=>?_) (fun v v0 v1=>by rw [if_neg (by omega)])).iff ⟨fun k=>⟨hn,k⟩,fun k=>k.2⟩
  rw [if_pos v1]
  refine Ok.gd ⟨v0,v1⟩ ?_
  obtain ⟨b,eb,hb⟩:=mayI_b (hs.mine.2 _ (gi_mem ⟨v0,v1⟩))
  rw [eb,bsome]
  refine Ok.gd (fun _=>by unfold I64; omega) (Ok.gd (fun _=>by unfold I64; omega) (Ok.gd (fun _=>by unfold I64; omega) (Ok.ite (fun h=>Ok.ret ⟨rfl,fun k=>?_⟩) (fun h=>Ok.gd (by unfold I64; omega) (Ok.ret ⟨rfl,?_⟩)))))
  · have:=hb.2 k.1
    subst this
    rcases h with (h | h) | h
    · cases h
    · exact h k.2.1
    · exact h (by rw [k.2.2]; omega)
  · have hbt:b = true:=by cases b <;> simp_all
    refine ⟨hb.1 hbt,?_,?_⟩
    · apply Classical.byContradiction; intro k; exact h (.inl (.inr k))
    · apply Classical.byContradiction; intro k; exact h (.inr (by omega))
def InputsOk (p:Per):Prop:=∀ v:Int,0 ≤ v→v < p.inputs.length→p.turn ≤ (gi p.inputs v).turn∧(gi p.inputs v).player ≤ p.players∧(gi p.inputs v).turn ≤ gi p.has ((gi p.inputs v).player - 1)
theorem inputs_b {p:Per} (hs:PerS p) (ho:ListOk p.inputs) (hp:(p.has.length:Int) = p.players) (h1:1 ≤ p.players∧p.players ≤ 8):Bo (peer_inputs p) (InputsOk p):=by
  have hml:=hs.inputs.1
  unfold peer_inputs
  refine scanBo (a:=0) (n:=p.inputs.length) (fun v=>p.turn ≤ (gi p.inputs v).turn∧(gi p.inputs v).player ≤ p.players∧(gi p.inputs v).turn ≤ gi p.has ((gi p.inputs v).player - 1)) (by omega) (fun v v0 v1 _=>?_) (fun v v0 v1=>by rw [if_neg (by omega)])
  rw [if_pos v1]
  have hk:=(ho v v0 v1).1.1
  refine Ok.gd ⟨v0,v1⟩ (Ok.gd (fun _=>by unfold I64; omega) (Ok.gd (fun _=>by omega) (Ok.ite (fun h=>Ok.ret ⟨rfl,fun k=>by omega⟩) (fun h=>Ok.gd (by unfold I64; omega) (Ok.ret ⟨rfl,by omega⟩)))))
theorem may_b {p:Per} (hs:PerS p):Bo (peer_May p) (Val p):=by
  unfold peer_May
  refine Ok.ite (fun h=>Ok.ret ⟨fun e=>(by cases e),fun k=>?_⟩) (fun h=>?_)
  · have h1:=k.pl; have h2:=k.id; have h3:=k.dl; have h4:=k.tn
    omega
  have h1:1 ≤ p.players∧p.players ≤ 8:=by omega
  have h2:1 ≤ p.id∧p.id ≤ p.players:=by omega
  have h3:1 ≤ p.delay∧p.delay ≤ 8:=by omega
  have h4:0 ≤ p.turn∧p.turn ≤ 1099511627776:=by omega
  refine Ok.gd (by unfold I64; omega) (Ok.gd (fun _=>by unfold I64; omega) (Ok.gd (fun _=>by unfold I64; omega) ?_))
  refine Ok.bind (Nb.or (fun _=>counts_b hs.has h1 h2 h3 h4)) fun b hb=>?_
  refine Ok.bind (Nb.orB hb (fun _=>counts_b hs.acked h1 h2 h3 h4)) fun b2 hb2=>?_
  refine Ok.ite (fun hbt=>Ok.ret ⟨fun e=>(by cases e),fun k=>?_⟩) (fun hbt=>?_)
  · refine absurd ⟨⟨?_,?_⟩,?_⟩ (hb2.1 hbt)
    · have:=k.sd; omega
    · refine ⟨fun v v0 v1=>?_,k.hl,k.hme⟩
      have:=k.hv v v0 (by have:=k.hl; omega); omega
    · refine ⟨fun v v0 v1=>?_,k.al,k.ame⟩
      have:=k.av v v0 (by have:=k.al; omega); have:=k.sd; omega
  obtain ⟨⟨hsd,hch⟩,hca⟩:=Nb.not hb2 hbt
  have hsd:p.delay - 1 ≤ p.said∧p.said ≤ p.turn + p.delay - 1∧p.said ≤ 1099511627776:=by omega
  have hl:=hch.2.1
  have al:=hca.2.1
  obtain ⟨e1,_,hmin⟩:=min_e (l:=p.has) (by omega) hs.has
  rw [e1,bsome]
  refine Ok.gd (by unfold I64; omega) ?_
  have hmx:Bo (Option.bind (slices_MaxI p.acked) fun x=>some (!decide (p.said < x))) (∀ v:Int,0 ≤ v→v < p.acked.length→gi p.acked v ≤ p.said):=by
    obtain ⟨m,em,⟨⟨v,hv,e⟩,hm⟩⟩:=max_p (l:=p.acked) (by omega) hs.acked
    rw [em]
    refine Ok.ret ?_
    rw [Bool.not_eq_true',decide_eq_false_iff_not]
    constructor
    · intro h u u0 u1
      have:=hm u u0 u1; omega
    · intro h; have:=h v hv.1 hv.2; omega
  have hmx2:Ok (if minL p.has < p.turn - 1 then some true else Option.bind (slices_MaxI p.acked) fun x=>some (decide (p.said < x))) fun b=>b = true ↔ ¬ (¬ (minL p.has < p.turn - 1)∧∀ v:Int,0 ≤ v→v < p.acked.length→gi p.acked v ≤ p.said):=by
    by_cases hc:minL p.has < p.turn - 1
    · rw [if_pos hc]; exact Ok.ret ⟨fun _ k=>k.1 hc,fun _=>rfl⟩
    · rw [if_neg hc]
      obtain ⟨m,em,hm⟩:=max_p (l:=p.acked) (by omega) hs.acked
      rw [em] at hmx ⊢
      obtain ⟨r,e,hr⟩:=hmx
      obtain rfl:=Option.some.inj e
      refine Ok.ret ?_
      rw [Bool.not_eq_true',decide_eq_false_iff_not] at hr
      rw [decide_eq_true_iff,← hr]
      constructor
      · intro k q; exact q.2 k
      · intro k; apply Classical.byContradiction; intro q; exact k ⟨hc,q⟩
  refine Ok.bind hmx2 fun b3 hb3=>?_
  refine Ok.ite (fun hbt=>Ok.ret ⟨fun e=>(by cases e),fun k=>?_⟩) (fun hbt=>?_)
  · have:=k.hs
    rcases hbt with (hbt | hbt) | hbt
    · refine absurd ⟨?_,fun v v0 v1=>(k.av v v0 (by omega)).2⟩ (hb3.1 hbt)
      obtain ⟨v,hv,e⟩:=hmin.1
      have:=k.hv v hv.1 (by omega)
      omega
    · omega
    · omega
  have hb3t:¬ b3 = true:=fun e=>hbt (.inl (.inl e))
  obtain ⟨hmn,hax⟩:=Nb.not hb3 hb3t
  have hhs:(p.hashes.length:Int) ≤ 16∧(p.hashes.length:Int) ≤ p.turn:=by omega
  obtain ⟨m1,em1,hm1⟩:=mine_b hs (by omega) (fun v v0 v1=>by have:=hca.1 v v0 v1; have:=hax v v0 v1; omega) (by omega)
  rw [em1,bsome]
  refine Ok.bind (bAnd (c:=m1 = true) (fun _=>rising_b hs.inputs)) fun b4 hb4=>?_
  refine Bo.iff (bId (bAnd (c:=b4 = true) (fun h=>inputs_b hs (hb4.1 h).2 hl h1))) ?_
  rw [hb4,hm1]
  constructor
  · rintro ⟨⟨⟨hm2,hm3⟩,hli⟩,hin⟩
    exact ⟨h1,h2,h3,h4,hsd,hl,al,fun v v0 v1=>by
      have a:=hch.1 v v0 (by omega)
      have b:=hmin.2 v v0 (by omega)
      omega,fun v v0 v1=>⟨(hca.1 v v0 (by omega)).1,hax v v0 (by omega)⟩,hch.2.2,hca.2.2,hhs,hli,hin,hm2,hm3⟩
  · intro k
    exact ⟨⟨⟨k.ml,k.mv⟩,k.inp⟩,k.iv⟩
end Go.Proofs.YtmngdgclldkcfaaGreat
set_option linter.unusedVariables false
set_option linter.unusedSimpArgs false
namespace Go.Proofs.YtmngdgclldkcfaaGreat
open Go.Vg
open Go
theorem own_p {p:Per} (hs:PerS p):peer_Own p = some p:=by
  unfold peer_Own slices_Clone_Int slices_Clone_U64
  have h1:=hs.has; have h2:=hs.acked; have h3:=hs.hashes
  rw [ownIs_p hs.mine,bsome,ownIs_p hs.inputs,bsome,if_pos (by omega),bsome,if_pos (by omega),bsome,if_pos (by omega),bsome]
end Go.Proofs.YtmngdgclldkcfaaGreat
set_option linter.unusedVariables false
set_option linter.unusedSimpArgs false
namespace Go.Proofs.YtmngdgclldkcfaaGreat
open Go.Vg
open Go
def nilPer:Per:=⟨0,0,0,0,0,[],[],[],[],[],false⟩
theorem gi_si {l:List Int} {j k x:Int} (hj:0 ≤ j∧j < l.length) (hk:0 ≤ k):gi (si l j x) k = if k = j then x else gi l k:=by
  by_cases h:k = j
  · subst h; rw [if_pos rfl,gi_si_self hj]
  · rw [if_neg h,gi_si_ne hj.1 hk (fun e=>h e.symm)]
theorem Val.noHas {p:Per} (h:Val p) {x:Inp} (hp:1 ≤ x.player∧x.player ≤ p.players) (ht:gi p.has (x.player - 1) < x.turn):¬ Has p.inputs x:=by
  rintro ⟨y,hy,e1,e2⟩
  obtain ⟨v,v0,v1,rfl⟩:=gi_mem2.1 hy
  have:=h.iv v v0 v1
  rw [e2] at this
  omega
theorem Val.pw {p:Per} (h:Val p):p.inputs.Pairwise InLt:=(ListOk.iff.1 h.inp).2
theorem ins_ok {l:List Inp} {x:Inp} (h:ListOk l) (hx:InpOk x) (hn:¬ Has l x):ListOk (insI l x):=by
  obtain ⟨h1,h2⟩:=ListOk.iff.1 h
  exact ListOk.iff.2 ⟨fun y hy=>by
    rcases List.mem_cons.1 ((insI_perm l x).mem_iff.1 hy) with rfl | hy
    · exact hx
    · exact h1 y hy,insI_pair h2 hn⟩
def IvOk (p:Per) (l:List Inp) (has:List Int):Prop:=∀ y ∈ l,p.turn ≤ y.turn∧y.player ≤ p.players∧y.turn ≤ gi has (y.player - 1)
theorem Val.ivm {p:Per} (h:Val p):IvOk p p.inputs p.has:=fun y hy=>by
  obtain ⟨v,v0,v1,rfl⟩:=gi_mem2.1 hy
  exact h.iv v v0 v1
theorem Val.plm {p:Per} (h:Val p) {y:Inp} (hy:y ∈ p.inputs):1 ≤ y.player:=by
  have:=(ListOk.iff.1 h.inp).1 y hy
  have:=this.1; omega
def inpOf (p:Per) (l:List Cmd):Inp:=⟨p.said + 1,p.id,l⟩
def sayP (p:Per) (l:List Cmd):Per:=⟨p.id,p.players,p.delay,p.turn,p.said + 1,if 1 < p.players then p.mine ++ [inpOf p l] else p.mine,insI p.inputs (inpOf p l),si p.has (p.id - 1) (p.said + 1),si p.acked (p.id - 1) (p.said + 1),p.hashes,p.split⟩
abbrev Shut (p:Per):Prop:=p.said = (p.turn + p.delay) - 1 ∨ p.said = 1099511627776
theorem say_p {p:Per} {l:List Cmd} (hs:PerS p) (hl:l.length ≤ 1000000) (hc:∀ c ∈ l,CmdS c) :
    (¬ Val p→peer_Say p l = some (nilPer,1))∧(Val p→Shut p→peer_Say p l = some (nilPer,10))∧(Val p→¬ Shut p→¬ SaidOk p.id l→peer_Say p l = some (nilPer,1)) ∧
    (Val p→¬ Shut p→SaidOk p.id l→peer_Say p l = some (sayP p l,0)):=by
  unfold peer_Say
  refine ⟨fun h=>?_,fun h hsh=>?_,fun h hsh hso=>?_,fun h hsh hso=>?_⟩
  · rw [(may_b hs).f h,bsome,if_pos (by rfl)]; rfl
  all_goals
    have h3:=h.dl; have h4:=h.tn; have h5:=h.sd
    rw [(may_b hs).t h,bsome,if_neg (by simp),if_pos (by unfold I64; omega),if_pos (by unfold I64; omega)]
  · rw [if_pos hsh]; rfl
  · rw [if_neg hsh,(said_b hl hc).f hso,bsome,if_pos (by rfl)]; rfl
  · have h1:=h.pl; have h2:=h.id; have h6:=h.hl; have h7:=h.al; have hm:=hs.mine.1
    have hn:¬ Has p.inputs (inpOf p l):=h.noHas (x:=inpOf p l) h2 (by show gi p.has (p.id - 1) < p.said + 1; rw [h.hme]; omega)
    have hi:=(in_p (x:=inpOf p l) hs.inputs ⟨hl,hc⟩ h.pw).2 hn
    unfold inpOf at hi
    rw [if_neg hsh,(said_b hl hc).t hso,bsome,if_neg (by simp),own_p hs,bsome,if_pos (by unfold I64; omega),hi,bsome]
    have hown:turns_Own ⟨p.said + 1,p.id,l⟩ = some ⟨p.said + 1,p.id,l⟩:=ownI_p ⟨hl,hc⟩
    have:(if 1 < p.players then Option.bind (turns_Own ⟨p.said + 1,p.id,l⟩) fun x34=>if p.mine.length + 1 < 1099511627776 then some (p.mine ++ ([x34]:List Inp)) else none else some p.mine) = some (if 1 < p.players then p.mine ++ [inpOf p l] else p.mine):=by
      by_cases hp:1 < p.players
      · rw [if_pos hp,if_pos hp,hown,bsome,if_pos (by omega)]; rfl
      · rw [if_neg hp,if_neg hp]
    rw [this,bsome,if_pos (by unfold I64; omega),if_pos (by unfold I64; omega),if_pos (by omega),if_pos (by omega)]
    rfl
theorem say_v {p:Per} {l:List Cmd} (hs:PerS p) (h:Val p) (hsh:¬ Shut p) (hso:SaidOk p.id l):Val (sayP p l):=by
  have h1:=h.pl; have h2:=h.id; have h3:=h.dl; have h4:=h.tn; have h5:=h.sd; have h6:=h.hl; have h7:=h.al
  have hns:p.said < p.turn + p.delay - 1∧p.said < 1099511627776:=by omega
  have hok:InpOk (inpOf p l):=⟨by show (((0 ≤ p.said + 1)∧(p.said + 1 ≤ 1099511627776))∧(1 ≤ p.id))∧p.id ≤ 8; omega,hso⟩
  have hn:¬ Has p.inputs (inpOf p l):=h.noHas (x:=inpOf p l) h2 (by show gi p.has (p.id - 1) < p.said + 1; rw [h.hme]; omega)
  have hk:0 ≤ p.id - 1∧p.id - 1 < p.has.length:=by omega
  have hka:0 ≤ p.id - 1∧p.id - 1 < p.acked.length:=by omega
  have hmn:=h.mn
  have hlen:(p.acked.length:Int) ≤ 1000000:=by omega
  have hlow:1 < p.players→minL (si p.acked (p.id - 1) (p.said + 1)) = minL p.acked:=fun hp=>by
    refine minL_of (by rw [len_si]; omega) ⟨?_,fun v v0 v1=>?_⟩
    · rw [len_si]
      obtain ⟨⟨v,hv,e⟩,hle⟩:=hmn
      by_cases hvk:v = p.id - 1
      · obtain ⟨u,hu,huk⟩:∃ u:Int,(0 ≤ u∧u < p.acked.length)∧u ≠ p.id - 1:=by
          by_cases hz:p.id - 1 = 0
          · exact ⟨1,by omega,by omega⟩
          · exact ⟨0,by omega,by omega⟩
        refine ⟨u,hu,?_⟩
        rw [gi_si hka hu.1,if_neg huk]
        have a:=hle u hu.1 hu.2
        have b:=(h.av u hu.1 (by omega)).2
        rw [hvk,h.ame] at e
        omega
      · exact ⟨v,hv,by rw [gi_si hka hv.1,if_neg hvk,e]⟩
    · rw [len_si] at v1
      rw [gi_si hka v0]
      have:=h.low
      split
      · omega
      · exact hmn.2 v v0 v1
  have hlow1:¬ 1 < p.players→minL (si p.acked (p.id - 1) (p.said + 1)) = p.said + 1∧p.mine = []:=fun hp=>by
    have e1:p.players = 1:=by omega
    have e2:p.id = 1:=by omega
    refine ⟨minL_of (by rw [len_si]; omega) ⟨⟨0,by rw [len_si]; omega,by rw [gi_si hka (by omega),if_pos (by omega)]⟩,fun v v0 v1=>?_⟩,?_⟩
    · rw [len_si] at v1
      rw [gi_si hka v0,if_pos (by omega)]; omega
    · obtain ⟨⟨v,hv,e⟩,_⟩:=hmn
      have:v = p.id - 1:=by omega
      rw [this,h.ame] at e
      have:=h.ml
      exact List.eq_nil_of_length_eq_zero (by omega)
  refine ⟨h1,h2,h3,h4,?_,?_,?_,?_,?_,?_,?_,h.hs,ins_ok h.inp hok hn,?_,?_,?_⟩
  · show p.delay - 1 ≤ p.said + 1∧p.said + 1 ≤ p.turn + p.delay - 1∧p.said + 1 ≤ 1099511627776
    omega
  · show ((si p.has _ _).length:Int) = _
    rw [len_si]; exact h6
  · show ((si p.acked _ _).length:Int) = _
    rw [len_si]; exact h7
  · intro v v0 v1
    show p.delay - 1 ≤ gi (si p.has _ _) v∧p.turn - 1 ≤ gi (si p.has _ _) v∧gi (si p.has _ _) v ≤ p.turn + 16∧gi (si p.has _ _) v ≤ 1099511627776
    rw [gi_si hk v0]
    have:=h.hv v v0 v1
    have:=h.hv (p.id - 1) (by omega) (by omega)
    rw [h.hme] at this
    split
    · omega
    · omega
  · intro v v0 v1
    show p.delay - 1 ≤ gi (si p.acked _ _) v∧gi (si p.acked _ _) v ≤ p.said + 1
    rw [gi_si hka v0]
    have:=h.av v v0 v1
    split
    · omega
    · omega
  · show gi (si p.has (p.id - 1) (p.said + 1)) (p.id - 1) = p.said + 1
    exact gi_si_self hk
  · show gi (si p.acked (p.id - 1) (p.said + 1)) (p.id - 1) = p.said + 1
    exact gi_si_self hka
  · have key:IvOk p (insI p.inputs (inpOf p l)) (si p.has (p.id - 1) (p.said + 1)):=fun y hy=>by
      rcases List.mem_cons.1 ((insI_perm _ _).mem_iff.1 hy) with rfl | hy
      · have:=h.hv (p.id - 1) (by omega) (by omega)
        rw [h.hme] at this
        refine ⟨by show p.turn ≤ p.said + 1; omega,h2.2,?_⟩
        show p.said + 1 ≤ gi (si p.has (p.id - 1) (p.said + 1)) (p.id - 1)
        rw [gi_si_self hk]; omega
      · have a:=h.ivm y hy
        have b:=h.plm hy
        rw [gi_si hk (by omega)]
        refine ⟨a.1,a.2.1,?_⟩
        split
        · rename_i e
          rw [e,h.hme] at a; omega
        · exact a.2.2
    exact fun v v0 v1=>key _ (gi_mem ⟨v0,v1⟩)
  · show ((if 1 < p.players then p.mine ++ [inpOf p l] else p.mine).length:Int) = p.said + 1 - minL (si p.acked (p.id - 1) (p.said + 1))
    by_cases hp:1 < p.players
    · rw [if_pos hp,hlow hp,List.length_append]
      have:=h.ml
      simp only [List.length_cons,List.length_nil]; omega
    · rw [if_neg hp,(hlow1 hp).1,(hlow1 hp).2]
      simp
  · show ∀ v:Int,0 ≤ v→v < ((if 1 < p.players then p.mine ++ [inpOf p l] else p.mine).length:Int)→InpOk (gi (if 1 < p.players then p.mine ++ [inpOf p l] else p.mine) v)∧(gi (if 1 < p.players then p.mine ++ [inpOf p l] else p.mine) v).player = p.id∧(gi (if 1 < p.players then p.mine ++ [inpOf p l] else p.mine) v).turn = minL (si p.acked (p.id - 1) (p.said + 1)) + 1 + v
    by_cases hp:1 < p.players
    · rw [if_pos hp,hlow hp]
      intro v v0 v1
      have hml:=h.ml
      rw [List.length_append] at v1
      simp only [List.length_cons,List.length_nil] at v1
      by_cases hv:v < p.mine.length
      · rw [gi_append_left ⟨v0,hv⟩]
        exact h.mv v v0 hv
      · have:v = p.mine.length:=by omega
        subst this
        rw [gi_append_at]
        exact ⟨hok,rfl,by show p.said + 1 = _; omega⟩
    · rw [if_neg hp,(hlow1 hp).2]
      intro v v0 v1
      simp at v1; omega
end Go.Proofs.YtmngdgclldkcfaaGreat
set_option linter.unusedVariables false
set_option linter.unusedSimpArgs false
namespace Go.Proofs.YtmngdgclldkcfaaGreat
open Go.Vg
open Go
def NoteOk (n:Nte):Prop:=((1 ≤ n.frm∧n.frm ≤ 8)∧(1 ≤ n.dst∧n.dst ≤ 8))∧¬ n.frm = n.dst∧(-1 ≤ n.don∧n.don ≤ 1099511627776)∧(-1 ≤ n.hav∧n.hav ≤ 1099511627776)∧¬ (n.don = -1∧¬ (n.hash.toNat:Int) = 0) ∧
  ((n.input.turn = -1→n.input.player = 0∧(n.input.commands.length:Int) = 0)∧(¬ n.input.turn = -1→InpOk n.input∧n.input.player = n.frm))
theorem mayNote_b {n:Nte} (hs:InpS n.input):Bo (peer_MayNote n) (NoteOk n):=by
  unfold peer_MayNote
  have ep:∀ x:Int,peer_player x = some (decide ((1 ≤ x)∧(x ≤ 8))):=fun _=>rfl
  have et:∀ x:Int,Bo (peer_turn x) ((-1 ≤ x)∧(x ≤ 1099511627776)):=fun _=>Bo.dec Iff.rfl
  rw [ep,bsome]
  refine Ok.bind (Nb.or (q:=(1 ≤ n.dst)∧(n.dst ≤ 8)) (fun _=>Bo.dec Iff.rfl)) fun b hb=>?_
  have hb:b = true ↔ ¬ ((1 ≤ n.frm∧n.frm ≤ 8)∧(1 ≤ n.dst∧n.dst ≤ 8)):=by rw [hb]; simp
  refine Ok.bind (Nb.or (fun _=>et _)) fun b2 hb2=>?_
  refine Ok.bind (Nb.orB hb2 (fun _=>et _)) fun b3 hb3=>?_
  have hb3:b3 = true ↔ ¬ (((1 ≤ n.frm∧n.frm ≤ 8)∧(1 ≤ n.dst∧n.dst ≤ 8))∧¬ n.frm = n.dst∧(-1 ≤ n.don∧n.don ≤ 1099511627776)∧(-1 ≤ n.hav∧n.hav ≤ 1099511627776)):=by
    rw [hb3,hb]
    constructor
    · intro h k; exact h ⟨⟨fun e=>e.elim (fun e=>e k.1) k.2.1,k.2.2.1⟩,k.2.2.2⟩
    · rintro h ⟨⟨k1,k2⟩,k3⟩; exact h ⟨Decidable.byContradiction fun e=>k1 (.inl e),fun e=>k1 (.inr e),k2,k3⟩
  refine Ok.ite (fun h=>Ok.ret ⟨fun e=>(by cases e),fun k=>?_⟩) (fun h=>?_)
  · exfalso
    rcases h with h | h
    · exact hb3.1 h ⟨k.1,k.2.1,k.2.2.1,k.2.2.2.1⟩
    · exact k.2.2.2.2.1 h
  obtain ⟨k1,k2,k3,k4⟩:=Nb.not hb3 (fun e=>h (.inl e))
  have k5:¬ (n.don = -1∧¬ (n.hash.toNat:Int) = 0):=fun e=>h (.inr e)
  refine Ok.ite (fun ht=>Bo.dec ⟨fun q=>⟨k1,k2,k3,k4,k5,fun _=>q,fun e=>absurd ht e⟩,fun q=>q.2.2.2.2.2.1 ht⟩) (fun ht=>?_)
  obtain ⟨r,e,hr⟩:=mayI_b hs
  rw [e,bsome]
  refine Bo.dec ?_
  rw [hr]
  exact ⟨fun q=>⟨k1,k2,k3,k4,k5,fun e=>absurd e ht,fun _=>q⟩,fun q=>q.2.2.2.2.2.2 ht⟩
def inP (p:Per) (n:Nte):Per:=if n.input.turn = gi p.has (n.frm - 1) + 1 then ⟨p.id,p.players,p.delay,p.turn,p.said,p.mine,insI p.inputs n.input,si p.has (n.frm - 1) (gi p.has (n.frm - 1) + 1),p.acked,p.hashes,p.split⟩ else p
def ackP (p:Per) (f hav:Int):Per:=if hav ≤ gi p.acked (f - 1) ∨ p.said < hav then p else ⟨p.id,p.players,p.delay,p.turn,p.said,p.mine.filter (fun i=>!decide (i.turn ≤ minL (si p.acked (f - 1) hav))),p.inputs,p.has,si p.acked (f - 1) hav,p.hashes,p.split⟩
def splB (p:Per) (don:Int) (hash:UInt64):Bool:=decide ((don < p.turn∧0 ≤ (p.hashes.length:Int) - (p.turn - don))∧¬ ((gi p.hashes ((p.hashes.length:Int) - (p.turn - don))).toNat:Int) = (hash.toNat:Int))
def splP (p:Per) (b:Bool):Per:=⟨p.id,p.players,p.delay,p.turn,p.said,p.mine,p.inputs,p.has,p.acked,p.hashes,b⟩
def takeP (p:Per) (n:Nte):Per:=splP (ackP (inP p n) n.frm n.hav) (p.split || splB p n.don n.hash)
theorem Val.spl {p:Per} (h:Val p) (b:Bool):Val (splP p b):=⟨h.pl,h.id,h.dl,h.tn,h.sd,h.hl,h.al,h.hv,h.av,h.hme,h.ame,h.hs,h.inp,h.iv,h.ml,h.mv⟩
theorem in_v {p:Per} {n:Nte} (h:Val p) (hn:NoteOk n) (hd:n.dst = p.id) (hf:n.frm ≤ p.players) (hfull:¬ p.turn + 16 < n.input.turn):Val (inP p n):=by
  unfold inP
  split
  · rename_i hin
    have h1:=h.pl; have h2:=h.id; have h3:=h.dl; have h4:=h.tn; have h5:=h.sd; have h6:=h.hl; have h7:=h.al
    have hfr:=hn.1; have hne:=hn.2.1
    have hk:0 ≤ n.frm - 1∧n.frm - 1 < p.has.length:=by omega
    have hold:=h.hv (n.frm - 1) (by omega) (by omega)
    obtain ⟨hok,hpl⟩:=hn.2.2.2.2.2.2 (by omega)
    have hok1:=hok.1
    have hnh:¬ Has p.inputs n.input:=h.noHas (by omega) (by rw [hpl]; omega)
    refine ⟨h1,h2,h3,h4,h5,?_,h7,?_,h.av,?_,h.ame,h.hs,ins_ok h.inp hok hnh,?_,h.ml,h.mv⟩
    · show ((si p.has _ _).length:Int) = _
      rw [len_si]; exact h6
    · intro v v0 v1
      show p.delay - 1 ≤ gi (si p.has _ _) v∧p.turn - 1 ≤ gi (si p.has _ _) v∧gi (si p.has _ _) v ≤ p.turn + 16∧gi (si p.has _ _) v ≤ 1099511627776
      rw [gi_si hk v0]
      have:=h.hv v v0 v1
      split <;> omega
    · show gi (si p.has _ _) (p.id - 1) = p.said
      rw [gi_si hk (by omega),if_neg (by omega)]; exact h.hme
    · have key:IvOk p (insI p.inputs n.input) (si p.has (n.frm - 1) (gi p.has (n.frm - 1) + 1)):=fun y hy=>by
        rcases List.mem_cons.1 ((insI_perm _ _).mem_iff.1 hy) with rfl | hy
        · rw [hpl,gi_si_self hk]; omega
        · have a:=h.ivm y hy
          have b:=h.plm hy
          rw [gi_si hk (by omega)]
          refine ⟨a.1,a.2.1,?_⟩
          split
          · rename_i e
            rw [e] at a; omega
          · exact a.2.2
      exact fun v v0 v1=>key _ (gi_mem ⟨v0,v1⟩)
  · exact h
theorem gi_cons {x:Inp} {l:List Inp} {v:Int} (h:0 ≤ v):gi (x :: l) (v + 1) = gi l v:=by
  simp only [gi]
  rw [show (v + 1).toNat = v.toNat + 1 by omega]; rfl
theorem fil_drop:∀ (l:List Inp) (a b:Int),(∀ v:Int,0 ≤ v→v < l.length→(gi l v).turn = a + 1 + v)→a ≤ b→b ≤ a + l.length→l.filter (fun i=>!decide (i.turn ≤ b)) = l.drop (b - a).toNat
  | [],a,b,_,_,_=>by simp
  | x :: l,a,b,h,h1,h2=>by
    have hx:x.turn = a + 1 + 0:=h 0 (by omega) (by rw [List.length_cons]; omega)
    have hr:∀ v:Int,0 ≤ v→v < l.length→(gi l v).turn = (a + 1) + 1 + v:=fun v v0 v1=>by
      have:=h (v + 1) (by omega) (by rw [List.length_cons]; omega)
      rw [gi_cons v0] at this
      omega
    rw [List.length_cons] at h2
    by_cases hb:b = a
    · subst hb
      rw [show (b - b).toNat = 0 by omega,List.drop_zero,List.filter_eq_self]
      intro y hy
      rw [Bool.not_eq_true',decide_eq_false_iff_not]
      rcases List.mem_cons.1 hy with rfl | hy
      · omega
      · obtain ⟨v,v0,v1,rfl⟩:=gi_mem2.1 hy
        have:=hr v v0 v1
        omega
    · rw [List.filter_cons_of_neg (by rw [Bool.not_eq_true',decide_eq_false_iff_not]; omega),fil_drop l (a + 1) b hr (by omega) (by omega),show (b - a).toNat = (b - (a + 1)).toNat + 1 by omega]
      rfl
theorem gi_drop {l:List Inp} {k:Nat} {v:Int} (h:0 ≤ v):gi (l.drop k) v = gi l (v + k):=by
  simp only [gi,List.getD,List.getElem?_drop]
  rw [show k + v.toNat = (v + (k:Int)).toNat by omega]
theorem ack_low {p:Per} {f hav:Int} (h:Val p) (hf:1 ≤ f∧f ≤ p.players) (hne:¬ f = p.id) (hc:¬ (hav ≤ gi p.acked (f - 1) ∨ p.said < hav)) :
    IsMin (si p.acked (f - 1) hav) (minL (si p.acked (f - 1) hav))∧minL p.acked ≤ minL (si p.acked (f - 1) hav)∧minL (si p.acked (f - 1) hav) ≤ p.said∧p.mine.filter (fun i=>!decide (i.turn ≤ minL (si p.acked (f - 1) hav))) = p.mine.drop (minL (si p.acked (f - 1) hav) - minL p.acked).toNat:=by
  have h1:=h.pl; have h2:=h.id; have h7:=h.al
  have hk:0 ≤ f - 1∧f - 1 < p.acked.length:=by omega
  have hm:=(min_e (l:=si p.acked (f - 1) hav) (by rw [len_si]; omega) (by rw [len_si]; omega)).2.2
  have a1:minL p.acked ≤ minL (si p.acked (f - 1) hav):=by
    obtain ⟨⟨v,hv,e⟩,_⟩:=hm
    rw [len_si] at hv
    rw [gi_si hk hv.1] at e
    have:=h.mn.2 v hv.1 hv.2
    have:=h.mn.2 (f - 1) hk.1 hk.2
    split at e <;> omega
  have a2:minL (si p.acked (f - 1) hav) ≤ p.said:=by
    have:=hm.2 (p.id - 1) (by omega) (by rw [len_si]; omega)
    rw [gi_si hk (by omega),if_neg (by omega),h.ame] at this
    exact this
  refine ⟨hm,a1,a2,fil_drop p.mine (minL p.acked) _ (fun v v0 v1=>(h.mv v v0 v1).2.2) a1 ?_⟩
  have:=h.ml; omega
theorem ack_v {p:Per} {f hav:Int} (h:Val p) (hf:1 ≤ f∧f ≤ p.players) (hne:¬ f = p.id):Val (ackP p f hav):=by
  unfold ackP
  split
  · exact h
  · rename_i hc
    obtain ⟨hm,a1,a2,a3⟩:=ack_low h hf hne hc
    have h1:=h.pl; have h2:=h.id; have h7:=h.al
    have hk:0 ≤ f - 1∧f - 1 < p.acked.length:=by omega
    rw [a3]
    have hml:=h.ml
    refine ⟨h1,h2,h.dl,h.tn,h.sd,h.hl,?_,h.hv,?_,h.hme,?_,h.hs,h.inp,h.iv,?_,?_⟩
    · show ((si p.acked _ _).length:Int) = _
      rw [len_si]; exact h7
    · intro v v0 v1
      show p.delay - 1 ≤ gi (si p.acked _ _) v∧gi (si p.acked _ _) v ≤ p.said
      rw [gi_si hk v0]
      have:=h.av v v0 v1
      have:=h.av (f - 1) (by omega) (by omega)
      split <;> omega
    · show gi (si p.acked _ _) (p.id - 1) = p.said
      rw [gi_si hk (by omega),if_neg (by omega)]; exact h.ame
    · show ((p.mine.drop _).length:Int) = p.said - minL (si p.acked (f - 1) hav)
      rw [List.length_drop]; omega
    · intro v v0 v1
      have v1:v < ((p.mine.drop (minL (si p.acked (f - 1) hav) - minL p.acked).toNat).length:Int):=v1
      rw [List.length_drop] at v1
      show InpOk (gi (p.mine.drop _) v)∧(gi (p.mine.drop _) v).player = p.id∧(gi (p.mine.drop _) v).turn = minL (si p.acked (f - 1) hav) + 1 + v
      rw [gi_drop v0]
      have:=h.mv (v + ((minL (si p.acked (f - 1) hav) - minL p.acked).toNat:Nat)) (by omega) (by omega)
      exact ⟨this.1,this.2.1,by rw [this.2.2]; omega⟩
theorem acked_p {p:Per} {f hav:Int} (hf:1 ≤ f∧f ≤ p.acked.length) (hl:p.acked.length ≤ 1000000) (hm:p.mine.length ≤ 1000000):peer_acked p f hav = some (ackP p f hav):=by
  unfold peer_acked ackP
  rw [if_pos (by unfold I64; omega),if_pos (by omega)]
  by_cases hc:hav ≤ gi p.acked (f - 1) ∨ p.said < hav
  · rw [if_pos hc,if_pos hc]
  · rw [if_neg hc,if_neg hc,if_pos (by unfold I64; omega),if_pos (by omega),(min_e (l:=si p.acked (f - 1) hav) (by rw [len_si]; omega) (by rw [len_si]; omega)).1,bsome]
    unfold slices_DeleteFuncI
    rw [if_pos ⟨fun x hx=>⟨rfl,rfl⟩,by omega⟩,bsome]
    have:(fun x:Inp=>(peer_acked_1 x (minL (si p.acked (f - 1) hav)) == some false)) = (fun i:Inp=>!decide (i.turn ≤ minL (si p.acked (f - 1) hav))):=by
      funext x
      unfold peer_acked_1
      cases decide (x.turn ≤ minL (si p.acked (f - 1) hav)) <;> rfl
    rw [this]
theorem split_p {p:Per} {don:Int} {hash:UInt64} (ht:0 ≤ p.turn∧p.turn ≤ 1099511627776) (hd:-1 ≤ don∧don ≤ 1099511627776) (hh:p.hashes.length ≤ 1000000):peer_split p don hash = some (splB p don hash):=by
  unfold peer_split splB
  rw [if_pos (by unfold I64; omega),if_pos (by unfold I64; omega),if_pos (fun h=>⟨h.2,by omega⟩)]
theorem inP_eqs {p:Per} {n:Nte}:(inP p n).id = p.id∧(inP p n).players = p.players∧(inP p n).acked = p.acked∧(inP p n).mine = p.mine∧(inP p n).turn = p.turn∧(inP p n).hashes = p.hashes∧(inP p n).split = p.split∧(inP p n).said = p.said∧(inP p n).delay = p.delay:=by
  unfold inP
  split <;> exact ⟨rfl,rfl,rfl,rfl,rfl,rfl,rfl,rfl,rfl⟩
theorem ackP_eqs {p:Per} {f hav:Int}:(ackP p f hav).id = p.id∧(ackP p f hav).players = p.players∧(ackP p f hav).inputs = p.inputs∧(ackP p f hav).has = p.has∧(ackP p f hav).turn = p.turn∧(ackP p f hav).hashes = p.hashes∧(ackP p f hav).split = p.split∧(ackP p f hav).said = p.said∧(ackP p f hav).delay = p.delay:=by
  unfold ackP
  split <;> exact ⟨rfl,rfl,rfl,rfl,rfl,rfl,rfl,rfl,rfl⟩
abbrev TakeBad (p:Per) (n:Nte):Prop:=¬ NoteOk n ∨ ¬ n.dst = p.id ∨ p.players < n.frm
theorem take_p {p:Per} {n:Nte} (hs:PerS p) (hn:InpS n.input) :
    (¬ Val p→peer_Take p n = some (nilPer,1))∧(Val p→TakeBad p n→peer_Take p n = some (nilPer,1))∧(Val p→¬ TakeBad p n→p.turn + 16 < n.input.turn→peer_Take p n = some (nilPer,4)) ∧
    (Val p→¬ TakeBad p n→¬ p.turn + 16 < n.input.turn→peer_Take p n = some (takeP p n,0)):=by
  obtain ⟨r,er,hr⟩:=mayNote_b hn
  refine ⟨fun h=>?_,fun h hb=>?_,fun h hb hf=>?_,fun h hb hf=>?_⟩
  · unfold peer_Take
    rw [(may_b hs).f h,bsome,if_pos (by rfl),bsome,if_pos (.inl (.inl rfl))]; rfl
  · unfold peer_Take
    rw [(may_b hs).t h,bsome,if_neg (by simp),er,bsome,bsome,if_pos ?_]
    · rfl
    · rcases hb with hb | hb | hb
      · refine .inl (.inl ?_)
        cases r with
        | true=>exact absurd (hr.1 rfl) hb
        | false=>rfl
      · exact .inl (.inr hb)
      · exact .inr hb
  all_goals
    have hok:NoteOk n:=Classical.byContradiction fun e=>hb (.inl e)
    have hd:n.dst = p.id:=Decidable.byContradiction fun e=>hb (.inr (.inl e))
    have hfr:n.frm ≤ p.players:=by
      have:¬ p.players < n.frm:=fun e=>hb (.inr (.inr e))
      omega
    have hrt:=hr.2 hok
    subst hrt
    have h1:=h.pl; have h2:=h.id; have h3:=h.dl; have h4:=h.tn; have h5:=h.sd; have h6:=h.hl; have h7:=h.al
    have hn1:=hok.1
  · unfold peer_Take
    rw [(may_b hs).t h,bsome,if_neg (by simp),er,bsome,bsome,if_neg (by rintro ((e | e) | e); cases e; exact e hd; omega),if_pos (by unfold I64; omega),if_pos hf]; rfl
  · have hold:=h.hv (n.frm - 1) (by omega) (by omega)
    have hs3:=hs.hashes; have hs2:=hs.acked; have hs1:=hs.mine.1
    obtain ⟨q1,q2,q3,q4,q5,q6,q7,q8,q9⟩:=inP_eqs (p:=p) (n:=n)
    obtain ⟨k1,k2,k3,k4,k5,k6,k7,k8,k9⟩:=ackP_eqs (p:=inP p n) (f:=n.frm) (hav:=n.hav)
    unfold peer_Take
    rw [(may_b hs).t h,bsome,if_neg (by simp),er,bsome,bsome,if_neg (by rintro ((e | e) | e); cases e; exact e hd; omega),if_pos (by unfold I64; omega),if_neg hf,own_p hs,bsome,if_pos (by unfold I64; omega),if_pos (by omega),if_pos (by unfold I64; omega)]
    refine Ok.eq (Ok.bindE (x:=((inP p n).has,(inP p n).inputs)) ?_ ?_)
    · by_cases hin:n.input.turn = gi p.has (n.frm - 1) + 1
      · obtain ⟨hiok,hipl⟩:=hok.2.2.2.2.2.2 (by omega)
        have hnh:¬ Has p.inputs n.input:=h.noHas (by omega) (by rw [hipl]; omega)
        rw [if_pos hin,(in_p hs.inputs hn h.pw).2 hnh,bsome,if_pos (by unfold I64; omega),if_pos (by omega),if_pos (by unfold I64; omega),if_pos (by omega)]
        unfold inP
        rw [if_pos hin]
      · rw [if_neg hin]
        unfold inP
        rw [if_neg hin]
    · have e1:(⟨p.id,p.players,p.delay,p.turn,p.said,p.mine,(inP p n).inputs,(inP p n).has,p.acked,p.hashes,p.split⟩:Per) = inP p n:=by
        unfold inP
        split <;> rfl
      show Ok (Option.bind (peer_acked (⟨p.id,p.players,p.delay,p.turn,p.said,p.mine,(inP p n).inputs,(inP p n).has,p.acked,p.hashes,p.split⟩:Per) n.frm n.hav) _) _
      rw [e1,acked_p (by rw [q3]; omega) (by rw [q3]; exact hs2) (by rw [q4]; exact hs1),bsome]
      have e2:splB (ackP (inP p n) n.frm n.hav) n.don n.hash = splB p n.don n.hash:=by
        unfold splB
        rw [k5,k6,q5,q6]
      rw [split_p (by rw [k5,q5]; exact h4) (by have:=hok.2.2.1; exact this) (by rw [k6,q6]; exact hs3),e2,k7,q7]
      refine Ok.bindE (x:=p.split || splB p n.don n.hash) ?_ (Ok.ret rfl)
      cases p.split <;> rfl
theorem take_v {p:Per} {n:Nte} (h:Val p) (hb:¬ TakeBad p n) (hf:¬ p.turn + 16 < n.input.turn):Val (takeP p n):=by
  have hok:NoteOk n:=Classical.byContradiction fun e=>hb (.inl e)
  have hd:n.dst = p.id:=Decidable.byContradiction fun e=>hb (.inr (.inl e))
  have hfr:n.frm ≤ p.players:=by
    have:¬ p.players < n.frm:=fun e=>hb (.inr (.inr e))
    omega
  obtain ⟨q1,q2,_⟩:=inP_eqs (p:=p) (n:=n)
  exact (ack_v (in_v h hok hd hfr hf) (by rw [q2]; exact ⟨hok.1.1.1,hfr⟩) (by rw [q1,← hd]; exact hok.2.1)).spl _
abbrev CanGo (p:Per):Prop:=(∀ v:Int,0 ≤ v→v < p.has.length→p.turn ≤ gi p.has v)∧p.turn < 1099511627776
theorem can_p {p:Per} (h:Val p) (hs:PerS p):Bo (peer_can p) (CanGo p):=by
  have h1:=h.pl; have h6:=h.hl
  obtain ⟨e,_,hm⟩:=min_e (l:=p.has) (by omega) hs.has
  unfold peer_can
  rw [e,bsome]
  refine Bo.dec ⟨fun k=>⟨fun v v0 v1=>by have:=hm.2 v v0 v1; omega,k.2⟩,fun k=>⟨?_,k.2⟩⟩
  obtain ⟨⟨v,hv,e⟩,_⟩:=hm
  have:=k.1 v hv.1 hv.2
  omega
def theseI (p:Per):List Inp:=p.inputs.filter (fun i=>decide (i.turn = p.turn))
def othersI (p:Per):List Inp:=p.inputs.filter (fun i=>!decide (i.turn = p.turn))
theorem InpsS.filter {l:List Inp} (h:InpsS l) (f:Inp→Bool):InpsS (l.filter f):=⟨Nat.le_trans (List.length_filter_le _ _) h.1,fun y hy=>h.2 y (List.mem_filter.1 hy).1⟩
theorem ready_p {p:Per} (hs:PerS p) :
    (¬ Val p→peer_Ready p = some ([],false,1))∧(Val p→¬ CanGo p→peer_Ready p = some ([],false,0))∧(Val p→CanGo p→peer_Ready p = some ((theseI p).flatMap (·.commands),true,0)):=by
  unfold peer_Ready
  refine ⟨fun h=>?_,fun h hc=>?_,fun h hc=>?_⟩
  · rw [(may_b hs).f h,bsome,if_pos (by rfl)]
  · rw [(may_b hs).t h,bsome,if_neg (by simp),(can_p h hs).f hc,bsome,if_pos (by rfl)]
  · rw [(may_b hs).t h,bsome,if_neg (by simp),(can_p h hs).t hc,bsome,if_neg (by simp),part_p hs.inputs,bsome,all_p (hs.inputs.filter _),bsome]; rfl
def hashP (l:List UInt64) (x:UInt64):List UInt64:=if 16 < ((l ++ [x]).length:Int) then (l ++ [x]).drop 1 else l ++ [x]
def ranP (p:Per) (x:UInt64):Per:=⟨p.id,p.players,p.delay,p.turn + 1,p.said,p.mine,othersI p,p.has,p.acked,hashP p.hashes x,p.split⟩
theorem ran_p {p:Per} {x:UInt64} (hs:PerS p) :
    (¬ Val p→peer_Ran p x = some (nilPer,1))∧(Val p→¬ CanGo p→peer_Ran p x = some (nilPer,10))∧(Val p→CanGo p→peer_Ran p x = some (ranP p x,0)):=by
  have hs3:=hs.hashes
  unfold peer_Ran
  refine ⟨fun h=>?_,fun h hc=>?_,fun h hc=>?_⟩
  · rw [(may_b hs).f h,bsome,if_pos (by rfl)]; rfl
  · rw [(may_b hs).t h,bsome,if_neg (by simp),(can_p h hs).f hc,bsome,if_pos (by rfl)]; rfl
  · have h4:=h.tn
    rw [(may_b hs).t h,bsome,if_neg (by simp),(can_p h hs).t hc,bsome,if_neg (by simp),own_p hs,bsome,part_p hs.inputs,bsome,if_pos (by unfold I64; omega),if_pos (by omega)]
    unfold ranP hashP
    by_cases hl:16 < ((p.hashes ++ [x]).length:Int)
    · rw [if_pos hl,if_pos hl,if_pos (by omega)]; rfl
    · rw [if_neg hl,if_neg hl]; rfl
theorem ran_v {p:Per} {x:UInt64} (h:Val p) (hc:CanGo p):Val (ranP p x):=by
  have h1:=h.pl; have h2:=h.id; have h3:=h.dl; have h4:=h.tn; have h5:=h.sd; have h6:=h.hl; have h7:=h.al; have h8:=h.hs
  have hpw:=ListOk.iff.1 h.inp
  refine ⟨h1,h2,h3,?_,?_,h6,h7,?_,h.av,h.hme,h.ame,?_,?_,?_,h.ml,h.mv⟩
  · show 0 ≤ p.turn + 1∧p.turn + 1 ≤ 1099511627776
    have:=hc.2; omega
  · show p.delay - 1 ≤ p.said∧p.said ≤ p.turn + 1 + p.delay - 1∧p.said ≤ 1099511627776
    omega
  · intro v v0 v1
    have v1:v < p.players:=v1
    show p.delay - 1 ≤ gi p.has v∧p.turn + 1 - 1 ≤ gi p.has v∧gi p.has v ≤ p.turn + 1 + 16∧gi p.has v ≤ 1099511627776
    have:=h.hv v v0 v1
    have:=hc.1 v v0 (by omega)
    omega
  · show ((hashP p.hashes x).length:Int) ≤ 16∧((hashP p.hashes x).length:Int) ≤ p.turn + 1
    unfold hashP
    split
    · rw [List.length_drop,List.length_append]; simp only [List.length_cons,List.length_nil]; omega
    · rename_i e
      rw [List.length_append] at e ⊢; simp only [List.length_cons,List.length_nil] at e ⊢; omega
  · exact ListOk.iff.2 ⟨fun y hy=>hpw.1 y (List.mem_filter.1 hy).1,hpw.2.sublist List.filter_sublist⟩
  · have key:∀ y ∈ othersI p,p.turn + 1 ≤ y.turn∧y.player ≤ p.players∧y.turn ≤ gi p.has (y.player - 1):=fun y hy=>by
      obtain ⟨hy,hne⟩:=List.mem_filter.1 hy
      rw [Bool.not_eq_true',decide_eq_false_iff_not] at hne
      have:=h.ivm y hy
      exact ⟨by omega,this.2⟩
    exact fun v v0 v1=>key _ (gi_mem ⟨v0,v1⟩)
end Go.Proofs.YtmngdgclldkcfaaGreat
set_option linter.unusedVariables false
set_option linter.unusedSimpArgs false
namespace Go.Proofs.YtmngdgclldkcfaaGreat
open Go.Vg
open Go
structure PerB (n:Int) (p:Per):Prop where
  mine:(p.mine.length:Int) ≤ 2000 + n∧∀ i ∈ p.mine,InpS i
  inputs:(p.inputs.length:Int) ≤ 2000 + n∧∀ i ∈ p.inputs,InpS i
  has:p.has.length ≤ 2000
  acked:p.acked.length ≤ 2000
  hashes:p.hashes.length ≤ 2000
theorem PerB.S {n:Int} {p:Per} (h:PerB n p) (hn:n ≤ 1000):PerS p:=⟨⟨by have:=h.mine.1; omega,h.mine.2⟩,⟨by have:=h.inputs.1; omega,h.inputs.2⟩,by have:=h.has; omega,by have:=h.acked; omega,by have:=h.hashes; omega⟩
end Go.Proofs.YtmngdgclldkcfaaGreat
set_option linter.unusedVariables false
set_option linter.unusedSimpArgs false
namespace Go.Proofs.YtmngdgclldkcfaaGreat
open Go.Vg
open Go
def inpFor (p:Per) (k:Int):Inp:=if gi p.acked (k - 1) - minL p.acked < p.mine.length then gi p.mine (gi p.acked (k - 1) - minL p.acked) else ⟨-1,0,[]⟩
def donP (p:Per):Int:=if 0 < (p.hashes.length:Int) then p.turn - 1 else -1
def lastP (p:Per):UInt64:=if 0 < (p.hashes.length:Int) then gi p.hashes ((p.hashes.length:Int) - 1) else 0
def noteFor (p:Per) (k:Int):Nte:=⟨p.id,k,inpFor p k,donP p,lastP p,gi p.has (k - 1)⟩
def notesTo (p:Per):Nat→List Nte
  | 0=>[]
  | n + 1=>notesTo p n ++ if ((n:Int) + 1) = p.id then [] else [noteFor p (n + 1)]
theorem notesTo_len (p:Per):∀ n,(notesTo p n).length ≤ n
  | 0=>Nat.le_refl _
  | n + 1=>by
    have:=notesTo_len p n
    unfold notesTo
    rw [List.length_append]
    split <;> simp <;> omega
theorem inpFor_S {p:Per} (hs:PerS p) (h:Val p) {k:Int} (hk:1 ≤ k∧k ≤ p.players):InpS (inpFor p k):=by
  unfold inpFor
  have hmn:=h.mn.2 (k - 1) (by omega) (by have:=h.al; omega)
  split
  · exact hs.mine.2 _ (gi_mem ⟨by omega,by assumption⟩)
  · exact ⟨by simp,fun c hc=>by cases hc⟩
theorem hash_eq {p:Per} (h:Val p):(if 0 < (p.hashes.length:Int) then if I64 (p.turn - 1) then if I64 ((p.hashes.length:Int) - 1) then if 0 ≤ ((p.hashes.length:Int) - 1)∧((p.hashes.length:Int) - 1) < (p.hashes.length:Int) then some ((p.turn - 1),(gi p.hashes ((p.hashes.length:Int) - 1))) else none else none else none else some ((-1),(0:UInt64))) = some (donP p,lastP p):=by
  have h4:=h.tn; have h8:=h.hs
  unfold donP lastP
  by_cases hc:0 < (p.hashes.length:Int)
  · rw [if_pos hc,if_pos hc,if_pos hc,if_pos (by unfold I64; omega),if_pos (by unfold I64; omega),if_pos (by omega)]
  · rw [if_neg hc,if_neg hc,if_neg hc]
theorem mine_at {p:Per} (h:Val p) {k v:Int} (hk:1 ≤ k∧k ≤ p.players) (hv:0 ≤ v∧v < p.mine.length):(gi p.mine v).turn = gi p.acked (k - 1) + 1 ↔ v = gi p.acked (k - 1) - minL p.acked:=by
  have:=(h.mv v hv.1 hv.2).2.2
  omega
theorem next_note {p:Per} {k:Int} (hk:1 ≤ k):notesTo p k.toNat = notesTo p (k - 1).toNat ++ if k = p.id then [] else [noteFor p k]:=by
  obtain ⟨n,rfl⟩:∃ n:Nat,k = n + 1:=⟨(k - 1).toNat,by omega⟩
  rw [show ((n:Int) + 1).toNat = n + 1 by omega,show ((n:Int) + 1 - 1).toNat = n by omega]; rfl
theorem index_p {l:List Inp} {f:Inp→Option Bool} {i:Int} (hl:l.length ≤ 1000000) (hi:0 ≤ i) (hf:∀ v:Int,0 ≤ v→v < l.length→f (gi l v) = some (decide (v = i))):slices_IndexFuncI l f = some (if i < l.length then i else -1):=by
  unfold slices_IndexFuncI
  refine Ok.eq (Ok.bind (R:=fun x=>match x with | .up v=>v = i∧i < l.length | .go _=>¬ i < l.length) (Ok.loop (fun v:Int=>(0 ≤ v∧v ≤ l.length)∧v ≤ i) (fun v=>(l.length - v).toNat) ⟨⟨by omega,by omega⟩,hi⟩ (by unfold FUEL; omega) ?_) ?_)
  · rintro v ⟨⟨v0,v1⟩,v2⟩
    refine Ok.ite (fun hlt=>Ok.gd ⟨v0,hlt⟩ ?_) (fun hge=>Ok.ret (by show ¬ i < _; omega))
    rw [hf v v0 hlt,bsome]
    refine Ok.ite (fun hc=>Ok.ret ?_) (fun hc=>Ok.gd (by unfold I64; omega) (Ok.ret ⟨⟨⟨by omega,by omega⟩,?_⟩,by omega⟩))
    · have:=of_decide_eq_true hc
      exact ⟨this,by omega⟩
    · have:¬ v = i:=fun e=>hc (decide_eq_true e)
      omega
  · rintro (⟨⟩ | v) hv
    · dsimp only [Ex.then]; exact Ok.ret (by rw [if_neg hv])
    · dsimp only [Ex.then]; exact Ok.ret (by rw [if_pos hv.2,hv.1])
theorem notesP_p {p:Per} (hs:PerS p):(¬ Val p→peer_Notes p = some ([],1))∧(Val p→peer_Notes p = some (notesTo p p.players.toNat,0)):=by
  unfold peer_Notes
  refine ⟨fun h=>?_,fun h=>?_⟩
  · rw [(may_b hs).f h,bsome,if_pos (by rfl)]
  have h1:=h.pl; have h4:=h.tn; have h6:=h.hl; have h7:=h.al; have hm:=hs.mine.1
  rw [(may_b hs).t h,bsome,if_neg (by simp)]
  refine Ok.eq (Ok.bind (R:=fun z:Int × List Nte=>z.2 = notesTo p p.players.toNat) (Ok.loop (fun z:List Nte × Int=>(1 ≤ z.2∧z.2 ≤ p.players + 1)∧z.1 = notesTo p (z.2 - 1).toNat) (fun z=>(p.players + 1 - z.2).toNat) ⟨⟨by show (1:Int) ≤ 1; omega,by show 1 ≤ p.players + 1; omega⟩,rfl⟩ (by unfold FUEL; dsimp only; omega) ?_) (fun z hz=>?_))
  · rintro ⟨l,k⟩ ⟨⟨k0,k1⟩,hl⟩
    dsimp only at k0 k1 hl ⊢
    refine Ok.ite (fun hk=>?_) (fun hk=>Ok.ret ?_)
    · have hnx:=next_note (p:=p) k0
      refine Ok.ite (fun he=>Ok.gd (by unfold I64; omega) (Ok.ret ⟨⟨⟨by show 1 ≤ k + 1; omega,by show k + 1 ≤ _; omega⟩,?_⟩,by show (p.players + 1 - (k + 1)).toNat < (p.players + 1 - k).toNat; omega⟩)) (fun he=>?_)
      · show l = notesTo p (k + 1 - 1).toNat
        rw [show k + 1 - 1 = k by omega,hnx,if_pos he,List.append_nil]; exact hl
      · have ha:=h.av (k - 1) (by omega) (by omega)
        have hdl:=h.dl; have hsd:=h.sd
        have hmn:=h.mn.2 (k - 1) (by omega) (by omega)
        refine Ok.gd (by unfold I64; omega) (Ok.gd (by omega) ?_)
        rw [hash_eq h,bsome]
        dsimp only
        have hidx:slices_IndexFuncI p.mine (fun y0=>peer_Notes_1 y0 p k) = some (if gi p.acked (k - 1) - minL p.acked < p.mine.length then gi p.acked (k - 1) - minL p.acked else -1):=by
          refine index_p hm (by omega) fun v v0 v1=>?_
          show peer_Notes_1 (gi p.mine v) p k = _
          unfold peer_Notes_1
          rw [if_pos (by unfold I64; omega),if_pos (by omega),if_pos (by unfold I64; omega)]
          congr 1
          exact decide_eq_decide.2 (mine_at h ⟨k0,hk⟩ ⟨v0,v1⟩)
        rw [hidx,bsome]
        refine Ok.bindE (x:=((inpFor p k).turn,(inpFor p k).player,(inpFor p k).commands)) ?_ ?_
        · unfold inpFor
          by_cases hb:gi p.acked (k - 1) - minL p.acked < p.mine.length
          · rw [if_pos hb,if_pos hb,if_pos (by omega),if_pos (by omega),ownI_p (hs.mine.2 _ (gi_mem ⟨by omega,hb⟩)),bsome]
          · rw [if_neg hb,if_neg hb,if_neg (by omega)]
        · dsimp only
          have:=notesTo_len p (k - 1).toNat
          refine Ok.gd (by rw [hl]; omega) (Ok.gd (by unfold I64; omega) (Ok.ret ⟨⟨⟨by show 1 ≤ k + 1; omega,by show k + 1 ≤ _; omega⟩,?_⟩,by show (p.players + 1 - (k + 1)).toNat < (p.players + 1 - k).toNat; omega⟩))
          show l ++ _ = notesTo p (k + 1 - 1).toNat
          rw [show k + 1 - 1 = k by omega,hnx,if_neg he,hl]; rfl
    · show l = _
      rw [hl,show k - 1 = p.players by omega]
  · obtain ⟨a,b⟩:=z
    have hz:b = notesTo p p.players.toNat:=hz
    exact Ok.ret (by rw [hz])
end Go.Proofs.YtmngdgclldkcfaaGreat
set_option linter.unusedVariables false
set_option linter.unusedSimpArgs false
namespace Go.Proofs.YtmngdgclldkcfaaGreat
open Go.Vg
open Go
structure Hist (n d:Int) (H:List Inp) (S:Int→Int):Prop where
  fn:∀ x ∈ H,∀ y ∈ H,x.turn = y.turn→x.player = y.player→x = y
  rng:∀ x ∈ H,d ≤ x.turn∧(1 ≤ x.player∧x.player ≤ n)∧x.turn ≤ S (x.player - 1)
  ok:∀ x ∈ H,InpOk x∧InpS x
structure Pr (K:Prop) (HF:Int→UInt64) (n d:Int) (H:List Inp) (S:Int→Int) (v:Int) (p:Per):Prop where
  id:p.id = v + 1
  pl:p.players = n
  dl:p.delay = d
  sp:K→p.split = false
  own:p.said = S v
  inH:∀ y ∈ p.inputs,y ∈ H
  mnH:∀ y ∈ p.mine,y ∈ H
  cpl:∀ j t:Int,0 ≤ j→j < n→p.turn ≤ t→d ≤ t→t ≤ gi p.has j→∃ y ∈ p.inputs,y.turn = t∧y.player = j + 1
  lim:∀ j:Int,0 ≤ j→j < n→gi p.has j ≤ S j
  hsh:K→∀ u:Int,0 ≤ u→u < p.hashes.length→gi p.hashes u = HF (p.turn - p.hashes.length + u)
def Bd (m:Int) (p:Per):Prop:=(p.mine.length:Int) ≤ m∧(p.inputs.length:Int) ≤ m
theorem Bd.mono {a b:Int} {p:Per} (h:Bd a p) (hab:a ≤ b):Bd b p:=by unfold Bd at h ⊢; omega
structure Wy (K:Prop) (HF:Int→UInt64) (n:Int) (H:List Inp) (m:Nte):Prop where
  ok:NoteOk m
  fr:m.frm ≤ n
  ds:m.dst ≤ n
  inp:m.input.turn = -1 ∨ m.input ∈ H
  hsh:K→m.don = -1 ∨ m.hash = HF m.don
  sz:InpS m.input
def LogOk (n:Int) (H:List Inp) (S:Int→Int) (t:Int) (c:List Cmd):Prop:=∃ L:List Inp,L.Pairwise InLt∧(∀ x,x ∈ L ↔ x ∈ H∧x.turn = t)∧c = L.flatMap (·.commands)∧∀ j:Int,0 ≤ j→j < n→t ≤ S j
variable {K:Prop} {HF:Int→UInt64} {n d v c:Int} {H:List Inp} {S:Int→Int} {p:Per} {ps:List Per} {way:List Nte} {log:List (List Cmd)} {m:Nte} {x:Inp}
theorem Pr.szs (h:Pr K HF n d H S v p) (hv:Val p) (hh:Hist n d H S) (b:Bd c p) (hc:c ≤ 1000000):PerS p :=
  ⟨⟨by have:=b.1; omega,fun y hy=>(hh.ok y (h.mnH y hy)).2⟩,⟨by have:=b.2; omega,fun y hy=>(hh.ok y (h.inH y hy)).2⟩,by have:=hv.hl; have:=hv.pl; omega,by have:=hv.al; have:=hv.pl; omega,by have:=hv.hs; omega⟩
def bump (S:Int→Int) (v:Int):Int→Int:=fun j=>if j = v then S v + 1 else S j
theorem bump_le (j:Int):S j ≤ bump S v j:=by
  unfold bump
  by_cases e:j = v
  · rw [if_pos e,e]; omega
  · rw [if_neg e]; omega
theorem bump_self:bump S v v = S v + 1:=by unfold bump; rw [if_pos rfl]
theorem Hist.say (h:Hist n d H S) (ht:x.turn = S v + 1) (hp:x.player = v + 1) (hv:0 ≤ v∧v < n) (hd:d ≤ x.turn) (hok:InpOk x∧InpS x):Hist n d (H ++ [x]) (bump S v):=by
  have old:∀ y ∈ H,y.turn = x.turn→y.player = x.player→False:=fun y hy e1 e2=>by
    have:=(h.rng y hy).2.2
    rw [e2,hp,show v + 1 - 1 = v by omega] at this
    omega
  refine ⟨fun a ha b hb e1 e2=>?_,fun a ha=>?_,fun a ha=>?_⟩
  · rcases List.mem_append.1 ha with ha | ha <;> rcases List.mem_append.1 hb with hb | hb
    · exact h.fn a ha b hb e1 e2
    · rw [List.mem_singleton.1 hb] at e1 e2; exact (old a ha e1 e2).elim
    · rw [List.mem_singleton.1 ha] at e1 e2; exact (old b hb e1.symm e2.symm).elim
    · rw [List.mem_singleton.1 ha,List.mem_singleton.1 hb]
  · rcases List.mem_append.1 ha with ha | ha
    · obtain ⟨k1,k2,k3⟩:=h.rng a ha
      have:=bump_le (S:=S) (v:=v) (a.player - 1)
      exact ⟨k1,k2,by omega⟩
    · rw [List.mem_singleton.1 ha]
      refine ⟨hd,by omega,?_⟩
      rw [hp,show v + 1 - 1 = v by omega,bump_self]; omega
  · rcases List.mem_append.1 ha with ha | ha
    · exact h.ok a ha
    · rw [List.mem_singleton.1 ha]; exact hok
theorem Pr.other {u:Int} (h:Pr K HF n d H S u p) (hne:¬ u = v):Pr K HF n d (H ++ [x]) (bump S v) u p :=
  ⟨h.id,h.pl,h.dl,h.sp,by rw [h.own]; unfold bump; rw [if_neg hne],fun y hy=>List.mem_append_left _ (h.inH y hy),fun y hy=>List.mem_append_left _ (h.mnH y hy),h.cpl,fun j j0 j1=>Int.le_trans (h.lim j j0 j1) (bump_le j),h.hsh⟩
theorem Wy.more (h:Wy K HF n H m):Wy K HF n (H ++ [x]) m:=⟨h.ok,h.fr,h.ds,h.inp.imp id fun k=>List.mem_append_left _ k,h.hsh,h.sz⟩
theorem mem_insI {l:List Inp} {x y:Inp}:y ∈ insI l x ↔ y = x ∨ y ∈ l:=by rw [(insI_perm l x).mem_iff,List.mem_cons]
theorem Pr.say {l:List Cmd} (h:Pr K HF n d H S v p) (hv:Val p) (h0:0 ≤ v∧v < n):Pr K HF n d (H ++ [inpOf p l]) (bump S v) v (sayP p l):=by
  have hl:=hv.hl
  have hpl:=h.pl
  have hgi:∀ j:Int,0 ≤ j→gi (si p.has (p.id - 1) (p.said + 1)) j = if j = p.id - 1 then p.said + 1 else gi p.has j:=fun j j0=>gi_si (by have:=hv.id; omega) j0
  refine ⟨h.id,h.pl,h.dl,h.sp,?_,fun y hy=>?_,fun y hy=>?_,fun j t j0 j1 t0 t1 t2=>?_,fun j j0 j1=>?_,h.hsh⟩
  · show p.said + 1 = _
    rw [bump_self,h.own]
  · rcases mem_insI.1 hy with e | e
    · exact List.mem_append_right _ (List.mem_singleton.2 e)
    · exact List.mem_append_left _ (h.inH y e)
  · have hy:y ∈ (if 1 < p.players then p.mine ++ [inpOf p l] else p.mine):=hy
    split at hy
    · rcases List.mem_append.1 hy with e | e
      · exact List.mem_append_left _ (h.mnH y e)
      · exact List.mem_append_right _ e
    · exact List.mem_append_left _ (h.mnH y hy)
  · have t2:t ≤ gi (si p.has (p.id - 1) (p.said + 1)) j:=t2
    rw [hgi j j0] at t2
    have hme:=hv.hme
    have hid:=h.id
    by_cases e:j = p.id - 1
    · rw [if_pos e] at t2
      by_cases e2:t = p.said + 1
      · exact ⟨inpOf p l,mem_insI.2 (.inl rfl),e2.symm,by show p.id = j + 1; omega⟩
      · obtain ⟨y,hy,k⟩:=h.cpl j t j0 j1 t0 t1 (by rw [e,hme]; omega)
        exact ⟨y,mem_insI.2 (.inr hy),k⟩
    · rw [if_neg e] at t2
      obtain ⟨y,hy,k⟩:=h.cpl j t j0 j1 t0 t1 t2
      exact ⟨y,mem_insI.2 (.inr hy),k⟩
  · show gi (si p.has (p.id - 1) (p.said + 1)) j ≤ _
    rw [hgi j j0]
    have hid:=h.id
    by_cases e:j = p.id - 1
    · rw [if_pos e,show j = v by omega,bump_self,h.own]; omega
    · rw [if_neg e]; exact Int.le_trans (h.lim j j0 j1) (bump_le j)
theorem Pr.note (h:Pr K HF n d H S v p) (hv:Val p) (hh:Hist n d H S) (hs:PerS p) {k:Int} (hk:1 ≤ k∧k ≤ n) (hne:¬ k = p.id):Wy K HF n H (noteFor p k):=by
  have h1:=hv.pl; have h2:=hv.id; have h4:=hv.tn; have h8:=hv.hs; have h9:=h.pl; have h10:=hv.hv (k - 1) (by omega) (by omega); have hdl:=hv.dl
  have hmn:=hv.mn.2 (k - 1) (by omega) (by have:=hv.al; omega)
  have hav:=hv.av (k - 1) (by omega) (by omega)
  have hin:(inpFor p k).turn = -1∧(inpFor p k).player = 0∧(inpFor p k).commands = [] ∨ (inpFor p k) ∈ p.mine∧(inpFor p k).player = p.id∧InpOk (inpFor p k):=by
    unfold inpFor
    split
    · rename_i hlt
      have:=hv.mv _ (by omega) hlt
      exact .inr ⟨gi_mem ⟨by omega,hlt⟩,this.2.1,this.1⟩
    · exact .inl ⟨rfl,rfl,rfl⟩
  have hmt:∀ y ∈ p.mine,¬ y.turn = -1:=fun y hy e=>by
    obtain ⟨⟨⟨⟨a,_⟩,_⟩,_⟩,_⟩:=(hh.ok y (h.mnH y hy)).1
    omega
  refine ⟨⟨⟨⟨h2.1,by show p.id ≤ 8; omega⟩,⟨hk.1,by show k ≤ 8; omega⟩⟩,fun e=>hne e.symm,?_,by show -1 ≤ gi p.has (k - 1)∧gi p.has (k - 1) ≤ 1099511627776; omega,?_,fun e=>?_,fun e=>?_⟩,by show p.id ≤ n; omega,hk.2,?_,?_,inpFor_S hs hv (by omega)⟩
  · show -1 ≤ donP p∧donP p ≤ 1099511627776
    unfold donP
    split <;> omega
  · rintro ⟨a,b⟩
    have a:donP p = -1:=a
    have b:¬ ((lastP p).toNat:Int) = 0:=b
    unfold donP at a
    unfold lastP at b
    by_cases hc:0 < (p.hashes.length:Int)
    · rw [if_pos hc] at a; omega
    · rw [if_neg hc] at b; exact b rfl
  · rcases hin with k1 | k1
    · exact ⟨k1.2.1,by show ((inpFor p k).commands.length:Int) = 0; rw [k1.2.2]; rfl⟩
    · exact absurd e (hmt _ k1.1)
  · rcases hin with k1 | k1
    · exact absurd k1.1 e
    · exact ⟨k1.2.2,k1.2.1⟩
  · exact hin.imp (·.1) fun k1=>h.mnH _ k1.1
  · intro k0
    show donP p = -1 ∨ lastP p = HF (donP p)
    unfold donP lastP
    by_cases hc:0 < (p.hashes.length:Int)
    · rw [if_pos hc,if_pos hc,h.hsh k0 _ (by omega) (by omega)]; right; congr 1; omega
    · rw [if_neg hc]; exact .inl rfl
theorem notes_mem {p:Per} {m:Nte}:∀ N:Nat,m ∈ notesTo p N→∃ k:Int,(1 ≤ k∧k ≤ N)∧¬ k = p.id∧m = noteFor p k
  | 0,h=>by cases h
  | N + 1,h=>by
    unfold notesTo at h
    rcases List.mem_append.1 h with h | h
    · obtain ⟨k,a,b⟩:=notes_mem N h
      exact ⟨k,by omega,b⟩
    · split at h
      · cases h
      · rename_i hn
        exact ⟨(N:Int) + 1,by omega,hn,List.mem_singleton.1 h⟩
theorem Pr.inN (h:Pr K HF n d H S v p) (hv:Val p) (hh:Hist n d H S) (w:Wy K HF n H m):Pr K HF n d H S v (inP p m):=by
  unfold inP
  split
  · rename_i ht
    have hn:=w.ok
    have hpl:=h.pl
    have hl:=hv.hl
    have hold:=hv.hv (m.frm - 1) (by have:=hn.1; omega) (by have:=w.fr; omega)
    have hdl:=hv.dl
    have hm:m.input ∈ H:=w.inp.resolve_left fun e=>by omega
    have hpf:=(hn.2.2.2.2.2.2 (by omega)).2
    have hf:=hn.1.1; have hfr:=w.fr
    have hgi:∀ j:Int,0 ≤ j→gi (si p.has (m.frm - 1) (gi p.has (m.frm - 1) + 1)) j = if j = m.frm - 1 then gi p.has (m.frm - 1) + 1 else gi p.has j:=fun j j0=>gi_si (by omega) j0
    refine ⟨h.id,h.pl,h.dl,h.sp,h.own,fun y hy=>?_,h.mnH,fun j t j0 j1 t0 t1 t2=>?_,fun j j0 j1=>?_,h.hsh⟩
    · rcases mem_insI.1 hy with e | e
      · rw [e]; exact hm
      · exact h.inH y e
    · have t2:t ≤ gi (si p.has (m.frm - 1) (gi p.has (m.frm - 1) + 1)) j:=t2
      rw [hgi j j0] at t2
      by_cases e:j = m.frm - 1
      · rw [if_pos e] at t2
        by_cases e2:t = gi p.has (m.frm - 1) + 1
        · exact ⟨m.input,mem_insI.2 (.inl rfl),by omega,by omega⟩
        · obtain ⟨y,hy,k⟩:=h.cpl j t j0 j1 t0 t1 (by rw [e]; omega)
          exact ⟨y,mem_insI.2 (.inr hy),k⟩
      · rw [if_neg e] at t2
        obtain ⟨y,hy,k⟩:=h.cpl j t j0 j1 t0 t1 t2
        exact ⟨y,mem_insI.2 (.inr hy),k⟩
    · show gi (si p.has (m.frm - 1) (gi p.has (m.frm - 1) + 1)) j ≤ _
      rw [hgi j j0]
      by_cases e:j = m.frm - 1
      · rw [if_pos e,← ht]
        have:=(hh.rng _ hm).2.2
        rw [hpf] at this
        rw [e]; exact this
      · rw [if_neg e]; exact h.lim j j0 j1
  · exact h
theorem Pr.ackN {f hav:Int} (h:Pr K HF n d H S v p):Pr K HF n d H S v (ackP p f hav):=by
  unfold ackP
  split
  · exact h
  · exact ⟨h.id,h.pl,h.dl,h.sp,h.own,h.inH,fun y hy=>h.mnH y (List.mem_filter.1 hy).1,h.cpl,h.lim,h.hsh⟩
theorem Pr.unlike {don:Int} {hash:UInt64} (k0:K) (h:Pr K HF n d H S v p) (hv:Val p) (hk:don = -1 ∨ hash = HF don):splB p don hash = false:=by
  unfold splB
  rw [decide_eq_false_iff_not]
  rintro ⟨⟨h1,h2⟩,h3⟩
  have h8:=hv.hs
  rcases hk with e | e
  · omega
  · have h9:=h.hsh k0 _ h2 (by omega)
    have h10:p.turn - (p.hashes.length:Int) + ((p.hashes.length:Int) - (p.turn - don)) = don:=by omega
    exact h3 (by rw [h9,h10,e])
theorem Pr.take (h:Pr K HF n d H S v p) (hv:Val p) (hh:Hist n d H S) (w:Wy K HF n H m):Pr K HF n d H S v (takeP p m):=by
  unfold takeP
  have h1:=(h.inN hv hh w).ackN (f:=m.frm) (hav:=m.hav)
  refine ⟨h1.id,h1.pl,h1.dl,fun k0=>?_,h1.own,h1.inH,h1.mnH,h1.cpl,h1.lim,h1.hsh⟩
  show (p.split || splB p m.don m.hash) = false
  rw [h.sp k0,h.unlike k0 hv (w.hsh k0)]; rfl
theorem take_Bd (b:Bd c p):Bd (c + 1) (takeP p m):=by
  obtain ⟨b1,b2⟩:=b
  have i1:Bd (c + 1) (inP p m):=by
    unfold inP
    split
    · exact ⟨by show (p.mine.length:Int) ≤ _; omega,by show ((insI p.inputs m.input).length:Int) ≤ _; rw [insI_len]; omega⟩
    · exact ⟨by omega,by omega⟩
  have i2:Bd (c + 1) (ackP (inP p m) m.frm m.hav):=by
    unfold ackP
    split
    · exact i1
    · refine ⟨?_,i1.2⟩
      have:=List.length_filter_le (fun i:Inp=>!decide (i.turn ≤ minL (si (inP p m).acked (m.frm - 1) m.hav))) (inP p m).mine
      have:=i1.1
      show ((List.filter _ (inP p m).mine).length:Int) ≤ _
      omega
  exact i2
theorem say_Bd {l:List Cmd} (b:Bd c p):Bd (c + 1) (sayP p l):=by
  obtain ⟨b1,b2⟩:=b
  refine ⟨?_,by show ((insI p.inputs (inpOf p l)).length:Int) ≤ _; rw [insI_len]; omega⟩
  show ((if 1 < p.players then p.mine ++ [inpOf p l] else p.mine).length:Int) ≤ _
  split
  · rw [List.length_append]; simp; omega
  · omega
theorem ran_Bd {h:UInt64} (b:Bd c p):Bd c (ranP p h):=by
  refine ⟨b.1,?_⟩
  have:=List.length_filter_le (fun i:Inp=>!decide (i.turn = p.turn)) p.inputs
  have:=b.2
  show ((List.filter _ p.inputs).length:Int) ≤ _
  omega
theorem Pr.ready (h:Pr K HF n d H S v p) (hv:Val p) (hh:Hist n d H S) (hc:CanGo p):LogOk n H S p.turn ((theseI p).flatMap (·.commands)):=by
  have hl:=hv.hl; have hpl:=h.pl
  refine ⟨theseI p,(ListOk.iff.1 hv.inp).2.sublist List.filter_sublist,fun x=>⟨fun hx=>?_,fun hx=>?_⟩,rfl,fun j j0 j1=>Int.le_trans (hc.1 j j0 (by omega)) (h.lim j j0 j1)⟩
  · exact ⟨h.inH x (List.mem_filter.1 hx).1,of_decide_eq_true (List.mem_filter.1 hx).2⟩
  · obtain ⟨hH,ht⟩:=hx
    obtain ⟨k1,k2,_⟩:=hh.rng x hH
    obtain ⟨y,hy,e1,e2⟩:=h.cpl (x.player - 1) p.turn (by omega) (by omega) (Int.le_refl _) (by omega) (hc.1 _ (by omega) (by omega))
    have:y = x:=hh.fn y (h.inH y hy) x hH (by omega) (by omega)
    subst this
    exact List.mem_filter.2 ⟨hy,decide_eq_true ht⟩
theorem Pr.ran {g:UInt64} (h:Pr K HF n d H S v p) (hv:Val p) (hg:K→g = HF p.turn):Pr K HF n d H S v (ranP p g):=by
  refine ⟨h.id,h.pl,h.dl,h.sp,h.own,fun y hy=>h.inH y (List.mem_filter.1 hy).1,h.mnH,fun j t j0 j1 t0 t1 t2=>?_,h.lim,?_⟩
  · have t0:p.turn + 1 ≤ t:=t0
    obtain ⟨y,hy,k⟩:=h.cpl j t j0 j1 (by omega) t1 t2
    exact ⟨y,List.mem_filter.2 ⟨hy,by simp only [Bool.not_eq_true',decide_eq_false_iff_not]; omega⟩,k⟩
  · intro k0
    have key:∀ u:Int,0 ≤ u→u < p.hashes.length + 1→gi (p.hashes ++ [g]) u = HF (p.turn - p.hashes.length + u):=fun u u0 u1=>by
      by_cases e:u < p.hashes.length
      · rw [gi_append_left ⟨u0,e⟩]; exact h.hsh k0 u u0 e
      · rw [show u = (p.hashes.length:Int) by omega,gi_append_at,hg k0]; congr 1; omega
    intro u u0 u1
    have u1:u < ((hashP p.hashes g).length:Int):=u1
    show gi (hashP p.hashes g) u = HF (p.turn + 1 - (hashP p.hashes g).length + u)
    unfold hashP at u1 ⊢
    have hlen:((p.hashes ++ [g]).length:Int) = p.hashes.length + 1:=by simp
    by_cases hc:16 < ((p.hashes ++ [g]).length:Int)
    · rw [if_pos hc] at u1 ⊢
      have hl2:(((p.hashes ++ [g]).drop 1).length:Int) = p.hashes.length:=by rw [List.length_drop]; omega
      have e:gi ((p.hashes ++ [g]).drop 1) u = gi (p.hashes ++ [g]) (u + 1):=by
        simp only [gi,List.getD_eq_getElem?_getD,List.getElem?_drop]
        congr 2
        omega
      rw [e,key _ (by omega) (by omega),hl2]; congr 1; omega
    · rw [if_neg hc] at u1 ⊢
      rw [key u u0 (by omega),hlen]; congr 1; omega
end Go.Proofs.YtmngdgclldkcfaaGreat
set_option linter.unusedVariables false
set_option linter.unusedSimpArgs false
namespace Go.Proofs.YtmngdgclldkcfaaGreat
open Go.Vg
open Go
structure Wo (K:Prop) (HF:Int→UInt64) (n d c:Int) (H:List Inp) (S:Int→Int) (ps:List Per) (way:List Nte):Prop where
  len:(ps.length:Int) = n
  val:∀ v:Int,0 ≤ v→v < n→Val (gi ps v)
  pr:∀ v:Int,0 ≤ v→v < n→Pr K HF n d H S v (gi ps v)
  bd:∀ v:Int,0 ≤ v→v < n→Bd c (gi ps v)
  hist:Hist n d H S
  wy:∀ m ∈ way,Wy K HF n H m
  sm:∀ j:Int,S j ≤ 7 + c
variable {K:Prop} {HF:Int→UInt64} {n d v c c':Int} {H:List Inp} {S:Int→Int} {p:Per} {ps:List Per} {way way':List Nte} {m:Nte} {x:Inp}
theorem Wo.PS (w:Wo K HF n d c H S ps way) (hv:0 ≤ v∧v < n) (hc:c ≤ 1000000):PerS (gi ps v):=(w.pr v hv.1 hv.2).szs (w.val v hv.1 hv.2) w.hist (w.bd v hv.1 hv.2) hc
theorem Wo.mono (w:Wo K HF n d c H S ps way) (hc:c ≤ c'):Wo K HF n d c' H S ps way:=⟨w.len,w.val,w.pr,fun v v0 v1=>(w.bd v v0 v1).mono hc,w.hist,w.wy,fun j=>by have:=w.sm j; omega⟩
theorem gi_put {l:List Per} {j k:Int} {x:Per} (hj:0 ≤ j∧j < l.length) (hk:0 ≤ k):gi (si l j x) k = if k = j then x else gi l k:=by
  by_cases e:k = j
  · rw [if_pos e,e,gi_si_self hj]
  · rw [if_neg e,gi_si_ne hj.1 hk fun h=>e h.symm]
theorem Wo.put (w:Wo K HF n d c H S ps way) (hv:0 ≤ v∧v < n) {q:Per} (h1:Val q) (h2:Pr K HF n d H S v q) (h3:Bd c' q) (hc:c ≤ c'):Wo K HF n d c' H S (si ps v q) way:=by
  have hl:=w.len
  have hg:∀ k:Int,0 ≤ k→gi (si ps v q) k = if k = v then q else gi ps k:=fun k k0=>gi_put ⟨hv.1,by omega⟩ k0
  refine ⟨by rw [len_si]; exact hl,fun k k0 k1=>?_,fun k k0 k1=>?_,fun k k0 k1=>?_,w.hist,w.wy,fun j=>by have:=w.sm j; omega⟩ <;> rw [hg k k0] <;> by_cases e:k = v
  · rw [if_pos e]; exact h1
  · rw [if_neg e]; exact w.val k k0 k1
  · rw [if_pos e,e]; exact h2
  · rw [if_neg e]; exact w.pr k k0 k1
  · rw [if_pos e]; exact h3
  · rw [if_neg e]; exact (w.bd k k0 k1).mono hc
theorem Wo.say {l:List Cmd} (w:Wo K HF n d c H S ps way) (hv:0 ≤ v∧v < n) (hc:c ≤ 1000000) (hsh:¬ Shut (gi ps v)) (hso:SaidOk (gi ps v).id l) (hl:l.length ≤ 1000000∧∀ y ∈ l,CmdS y):Wo K HF n d (c + 1) (H ++ [inpOf (gi ps v) l]) (bump S v) (si ps v (sayP (gi ps v) l)) way:=by
  have h:=w.pr v hv.1 hv.2
  have hV:=w.val v hv.1 hv.2
  have hlen:=w.len
  have hg:∀ k:Int,0 ≤ k→gi (si ps v (sayP (gi ps v) l)) k = if k = v then sayP (gi ps v) l else gi ps k:=fun k k0=>gi_put ⟨hv.1,by omega⟩ k0
  have ht:(inpOf (gi ps v) l).turn = S v + 1:=by show (gi ps v).said + 1 = _; rw [h.own]
  have hp:(inpOf (gi ps v) l).player = v + 1:=h.id
  have hsd:=hV.sd; have hdl:=hV.dl; have htn:=hV.tn; have hpl:=hV.pl; have hid:=hV.id; have hd:=h.dl
  have hok:InpOk (inpOf (gi ps v) l)∧InpS (inpOf (gi ps v) l):=⟨⟨by show (((0 ≤ (gi ps v).said + 1)∧((gi ps v).said + 1 ≤ 1099511627776))∧(1 ≤ (gi ps v).id))∧(gi ps v).id ≤ 8; unfold Shut at hsh; omega,hso⟩,hl⟩
  refine ⟨by rw [len_si]; exact hlen,fun k k0 k1=>?_,fun k k0 k1=>?_,fun k k0 k1=>?_,w.hist.say ht hp hv (by show d ≤ (gi ps v).said + 1; omega) hok,fun m hm=>(w.wy m hm).more,fun j=>by
    have h1:=w.sm j; have h2:=w.sm v
    unfold bump
    by_cases e:j = v
    · rw [if_pos e]; omega
    · rw [if_neg e]; omega⟩
  all_goals
    try rw [hg k k0]
    by_cases e:k = v
  · rw [if_pos e]; exact say_v (w.PS hv hc) hV hsh hso
  · rw [if_neg e]; exact w.val k k0 k1
  · rw [if_pos e,e]; exact h.say hV hv
  · rw [if_neg e]; exact (w.pr k k0 k1).other e
  · rw [if_pos e]; exact say_Bd (w.bd v hv.1 hv.2)
  · rw [if_neg e]; exact (w.bd k k0 k1).mono (by omega)
theorem Wo.ways (w:Wo K HF n d c H S ps way) (h:∀ m ∈ way',Wy K HF n H m):Wo K HF n d c H S ps way':=⟨w.len,w.val,w.pr,w.bd,w.hist,h,w.sm⟩
theorem Wo.notes (w:Wo K HF n d c H S ps way) (hv:0 ≤ v∧v < n) (hc:c ≤ 1000000):∀ m ∈ notesTo (gi ps v) (gi ps v).players.toNat,Wy K HF n H m:=fun m hm=>by
  have h:=w.pr v hv.1 hv.2
  have hV:=w.val v hv.1 hv.2
  obtain ⟨k,hk,hne,rfl⟩:=notes_mem _ hm
  have:=h.pl
  have:=hV.pl
  exact h.note hV w.hist (w.PS hv hc) (by omega) hne
theorem Wo.full (w:Wo K HF n d c H S ps way) (hm:Wy K HF n H m) (hv:0 ≤ v∧v < n):¬ (gi ps v).turn + 16 < m.input.turn:=by
  have hV:=w.val v hv.1 hv.2
  have h:=w.pr v hv.1 hv.2
  have htn:=hV.tn; have hd:=h.dl; have hdl:=hV.dl; have hsd:=hV.sd
  rcases hm.inp with e | e
  · omega
  · obtain ⟨_,k2,k3⟩:=w.hist.rng _ e
    have hn:=hm.ok
    have hpf:=(hn.2.2.2.2.2.2 (by omega)).2
    have hu:0 ≤ m.frm - 1∧m.frm - 1 < n:=by have:=hm.fr; have:=hn.1.1; omega
    have gV:=w.val _ hu.1 hu.2
    have g:=w.pr _ hu.1 hu.2
    have g1:=g.own; have g2:=gV.sd; have g3:=g.dl
    have g4:=(gV.hv v hv.1 (by rw [g.pl]; exact hv.2)).2.1
    have g5:=g.lim v hv.1 hv.2
    have h1:=h.own
    rw [hpf] at k3
    omega
theorem Wo.take (w:Wo K HF n d c H S ps way) (hm:Wy K HF n H m) (hv:0 ≤ v∧v < n) (hd:m.dst = v + 1) (hc:c ≤ 1000000):peer_Take (gi ps v) m = some (takeP (gi ps v) m,0)∧Wo K HF n d (c + 1) H S (si ps v (takeP (gi ps v) m)) way:=by
  have h:=w.pr v hv.1 hv.2
  have hV:=w.val v hv.1 hv.2
  have hb:¬ TakeBad (gi ps v) m:=by
    rintro (e | e | e)
    · exact e hm.ok
    · rw [h.id] at e; exact e hd
    · have:=hm.fr; rw [h.pl] at e; omega
  have hf:=w.full hm hv
  refine ⟨(take_p (w.PS hv hc) hm.sz).2.2.2 hV hb hf,w.put hv (take_v hV hb hf) (h.take hV w.hist hm) (take_Bd (w.bd v hv.1 hv.2)) (by omega)⟩
def newP (i n d:Int):Per:=⟨i,n,d,0,d - 1,[],[],List.replicate n.toNat (d - 1),List.replicate n.toNat (d - 1),[],false⟩
theorem new_all:∀ a:Fin 4,∀ b:Fin 8,∀ i:Fin 4,i.val ≤ a.val→peer_New (((i.val + 1:Nat)):Int) ((a.val + 1:Nat):Int) ((b.val + 1:Nat):Int) = some (newP ((i.val + 1:Nat):Int) ((a.val + 1:Nat):Int) ((b.val + 1:Nat):Int),0)∧peer_May (newP ((i.val + 1:Nat):Int) ((a.val + 1:Nat):Int) ((b.val + 1:Nat):Int)) = some true:=by
  decide +kernel
theorem new_p {i n d:Int} (hn:1 ≤ n∧n ≤ 4) (hd:1 ≤ d∧d ≤ 8) (hi:1 ≤ i∧i ≤ n):peer_New i n d = some (newP i n d,0)∧Val (newP i n d):=by
  have h:=new_all ⟨(n - 1).toNat,by omega⟩ ⟨(d - 1).toNat,by omega⟩ ⟨(i - 1).toNat,by omega⟩ (by show (i - 1).toNat ≤ (n - 1).toNat; omega)
  have e1:((((n - 1).toNat + 1:Nat)):Int) = n:=by omega
  have e2:((((d - 1).toNat + 1:Nat)):Int) = d:=by omega
  have e3:((((i - 1).toNat + 1:Nat)):Int) = i:=by omega
  dsimp only at h
  rw [e1,e2,e3] at h
  refine ⟨h.1,?_⟩
  have hs:PerS (newP i n d):=⟨⟨by show 0 ≤ 1000000; omega,fun y hy=>(by cases hy)⟩,⟨by show 0 ≤ 1000000; omega,fun y hy=>(by cases hy)⟩,by show (List.replicate _ _).length ≤ _; rw [List.length_replicate]; omega,by show (List.replicate _ _).length ≤ _; rw [List.length_replicate]; omega,by show 0 ≤ 1000000; omega⟩
  obtain ⟨r,er,hr⟩:=may_b hs
  rw [h.2] at er
  exact hr.1 (Option.some.inj er).symm
theorem Wo.start (hn:1 ≤ n∧n ≤ 4) (hd:1 ≤ d∧d ≤ 8) (hl:(ps.length:Int) = n) (h:∀ v:Int,0 ≤ v→v < n→gi ps v = newP (v + 1) n d):Wo K HF n d 0 [] (fun _=>d - 1) ps []:=by
  refine ⟨hl,fun v v0 v1=>?_,fun v v0 v1=>?_,fun v v0 v1=>?_,⟨fun x hx=>(by cases hx),fun x hx=>(by cases hx),fun x hx=>(by cases hx)⟩,fun x hx=>(by cases hx),fun j=>by show d - 1 ≤ 7 + 0; omega⟩ <;> rw [h v v0 v1]
  · exact (new_p hn hd (by omega)).2
  · refine ⟨rfl,rfl,rfl,fun _=>rfl,rfl,fun y hy=>(by cases hy),fun y hy=>(by cases hy),fun j t j0 j1 t0 t1 t2=>?_,fun j j0 j1=>?_,fun _ u u0 u1=>?_⟩
    · have t2:t ≤ gi (List.replicate n.toNat (d - 1)) j:=t2
      rw [gi_replicate (by omega)] at t2; omega
    · show gi (List.replicate n.toNat (d - 1)) j ≤ d - 1
      rw [gi_replicate (by omega)]; exact Int.le_refl _
    · have u1:u < (([]:List UInt64).length:Int):=u1
      simp at u1; omega
  · exact ⟨Int.le_refl _,Int.le_refl _⟩

end Go.Proofs.YtmngdgclldkcfaaGreat
