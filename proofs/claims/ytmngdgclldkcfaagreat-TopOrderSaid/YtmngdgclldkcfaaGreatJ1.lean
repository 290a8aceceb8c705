/-
  Texts of one's own, joined: VA VB VC.
-/
import Derived.Still
import Derived.Tactics
import Derived.Below
import Derived.Laws.Append
import Derived.Deep.LoopGhost
import Derived.WalkKit
namespace Go.Vg
open Go.RowKit (Below)

abbrev Ext (w w':World):Prop:=Below w.heap.size w w'

theorem Ext.refl (w:World):Ext w w:=Below.refl _ w
theorem Ext.trans {a b c:World} (h:Ext a b) (k:Ext b c):Ext a c:=Below.trans h (Below.mono k h.size)
theorem Ext.drew (w:World):Ext w w.drew:=Below.drew (Below.refl _ w)
theorem Ext.drawn (w:World) (n:Nat):Ext w { w with drawn:=n }:=⟨rfl,rfl,rfl,Nat.le_refl _,fun _ _=>rfl⟩
theorem Ext.alloc (w:World) (o:Obj):Ext w (w.alloc o):=Below.alloc (Below.refl _ w) (Nat.le_refl _) o

abbrev Hp:=Nat→Option Obj
def hpOf (w:World):Hp:=fun k=>w.heap[k]?
def Hp.le (h h':Hp):Prop:=∀ b o,h b = some o→h' b = some o
def Hp.over (h B:Hp):Hp:=fun b=>match h b with | some o=>some o | none=>B b

def Hp.off (h:Hp) (g:Nat):Hp:=fun b=>if b = g then none else h b
theorem Hp.off_le (h:Hp) (g:Nat):(h.off g).le h:=fun b o e=>by
 unfold Hp.off at e
 split at e
 ·cases e
 ·exact e
theorem Hp.le_refl (h:Hp):h.le h:=fun _ _ e=>e
theorem Hp.le_trans {a b c:Hp} (h:a.le b) (k:b.le c):a.le c:=fun x o e=>k x o (h x o e)
theorem Hp.over_le {h B k:Hp} (h1:h.le k) (h2:B.le k):(h.over B).le k:=by
 intro b o e
 unfold Hp.over at e
 split at e
 ·rename_i o' e'; cases e; exact h1 b _ e'
 ·exact h2 b o e
theorem Hp.le_over (h B:Hp):h.le (h.over B):=by
 intro b o e; simp [Hp.over,e]

theorem lt_of_hp {w:World} {b:Nat} {o:Obj} (h:w.heap[b]? = some o):b < w.heap.size:=(Array.getElem?_eq_some_iff.1 h).1
theorem Ext.hp {w w':World} (h:Ext w w'):(hpOf w).le (hpOf w'):=fun b o e=>by
 show w'.heap[b]? = some o
 rw [h.block b (lt_of_hp e)]; exact e

abbrev Ch:=Hp→Prop

def Sat (w0:World) (G:List Ch) (w:World):Prop :=
  Ext w0 w∧∃ own:Nat→Nat,∀ i C,G[i]? = some C→∃ h:Hp,C h∧∀ b o,h b = some o→w0.heap.size ≤ b∧own b = i∧w.heap[b]? = some o

theorem Sat.ext {w0 w:World} {G:List Ch} (h:Sat w0 G w):Ext w0 w:=h.1

theorem Sat.start (w:World):Sat w [] w:=⟨Ext.refl w,fun _=>0,fun i C h=>by simp at h⟩

theorem Sat.grow {w0 w w':World} {G:List Ch} (h:Sat w0 G w) (e:Ext w w'):Sat w0 G w':=by
 obtain ⟨h1,own,h2⟩:=h
 refine ⟨h1.trans e,own,fun i C hi=>?_⟩
 obtain ⟨p,hp,hb⟩:=h2 i C hi
 refine ⟨p,hp,fun b o hbo=>?_⟩
 obtain ⟨a1,a2,a3⟩:=hb b o hbo
 exact ⟨a1,a2,by rw [e.block b (lt_of_hp a3)]; exact a3⟩

theorem Sat.get {w0 w:World} {G:List Ch} (h:Sat w0 G w) (i:Nat) {C:Ch} (hi:G[i]? = some C) :
  ∃ p:Hp,C p∧p.le (hpOf w)∧∀ b o,p b = some o→w0.heap.size ≤ b:=by
 obtain ⟨_,own,h2⟩:=h
 obtain ⟨p,hp,hb⟩:=h2 i C hi
 exact ⟨p,hp,fun b o e=>(hb b o e).2.2,fun b o e=>(hb b o e).1⟩

theorem Sat.pick {w0 w:World} {G G':List Ch} (h:Sat w0 G w) (f:List Nat) (hn:f.Nodup) (hg:f.map (fun i=>G[i]?) = G'.map some):Sat w0 G' w:=by
 obtain ⟨h1,own,h2⟩:=h
 refine ⟨h1,fun b=>f.idxOf (own b),fun j C hj=>?_⟩
 have hj':(G'.map some)[j]? = some (some C):=by simp [hj]
 rw [← hg,List.getElem?_map] at hj'
 obtain ⟨i,hi,hgi⟩:∃ i,f[j]? = some i∧G[i]? = some C:=by
  cases hf:f[j]? with
  | none=>simp [hf] at hj'
  | some i=>exact ⟨i,rfl,by simpa [hf] using hj'⟩
 obtain ⟨p,hp,hb⟩:=h2 i C hgi
 refine ⟨p,hp,fun b o e=>?_⟩
 obtain ⟨a1,a2,a3⟩:=hb b o e
 refine ⟨a1,?_,a3⟩
 show f.idxOf (own b) = j
 rw [a2]
 obtain ⟨hlt,hfe⟩:=List.getElem?_eq_some_iff.1 hi
 rw [← hfe]
 exact hn.idxOf_getElem j hlt

theorem Sat.new {w0 w w':World} {G:List Ch} (h:Sat w0 G w) (e:Ext w w') (C:Ch) (p:Hp) (hp:C p) (hl:p.le (hpOf w')) (hf:∀ b o,p b = some o→w.heap.size ≤ b):Sat w0 (G ++ [C]) w':=by
 obtain ⟨h1,own,h2⟩:=h
 refine ⟨h1.trans e,fun b=>if b < w.heap.size then own b else G.length,fun i D hi=>?_⟩
 rw [List.getElem?_append] at hi
 split at hi
 ·obtain ⟨q,hq,hb⟩:=h2 i D hi
  refine ⟨q,hq,fun b o hbo=>?_⟩
  obtain ⟨a1,a2,a3⟩:=hb b o hbo
  have hlt:=lt_of_hp a3
  exact ⟨a1,by simp [hlt,a2],by rw [e.block b hlt]; exact a3⟩
 ·rename_i hge
  have hi0:i - G.length = 0:=by
   rcases Nat.lt_or_ge (i - G.length) 1 with h | h
   ·omega
   ·simp [List.getElem?_eq_none (l:=[C]) (by simpa using h)] at hi
  rw [hi0] at hi
  simp at hi; subst hi
  refine ⟨p,hp,fun b o hbo=>?_⟩
  have hge':=hf b o hbo
  exact ⟨Nat.le_trans h1.size hge',by show (if b < w.heap.size then own b else G.length) = i; rw [if_neg (by omega)]; omega,hl b o hbo⟩

theorem Sat.join {w0 w w':World} {G D:List Ch} (h:Sat w0 G w) (k:Sat w D w'):Sat w0 (G ++ D) w':=by
 obtain ⟨h1,own,h2⟩:=h
 obtain ⟨k1,own',k2⟩:=k
 refine ⟨h1.trans k1,fun b=>if b < w.heap.size then own b else G.length + own' b,fun i C hi=>?_⟩
 rw [List.getElem?_append] at hi
 split at hi
 ·obtain ⟨q,hq,hb⟩:=h2 i C hi
  refine ⟨q,hq,fun b o hbo=>?_⟩
  obtain ⟨a1,a2,a3⟩:=hb b o hbo
  have hlt:=lt_of_hp a3
  exact ⟨a1,by simp [hlt,a2],by rw [k1.block b hlt]; exact a3⟩
 ·rename_i hge
  obtain ⟨q,hq,hb⟩:=k2 _ C hi
  refine ⟨q,hq,fun b o hbo=>?_⟩
  obtain ⟨a1,a2,a3⟩:=hb b o hbo
  refine ⟨Nat.le_trans h1.size a1,?_,a3⟩
  show (if b < w.heap.size then own b else G.length + own' b) = i
  rw [if_neg (by omega),a2]
  omega

theorem Sat.addEmpty {w0 w:World} {G:List Ch} (h:Sat w0 G w) (C:Ch) (hc:∀ p,C p):Sat w0 (G ++ [C]) w:=by
 refine h.new (Ext.refl w) C (fun _=>none) (hc _) (fun b o e=>by cases e) (fun b o e=>by cases e)

theorem Sat.turn {w0 w w':World} {G:List Ch} (h:Sat w0 G w) (i:Nat) {C:Ch} (hi:G[i]? = some C) (C':Ch)
  (hos:w'.os = w.os) (htape:w'.tape = w.tape) (hout:w'.output = w.output) (hsz:w.heap.size ≤ w'.heap.size)
  (step:∀ p:Hp,C p→p.le (hpOf w)→(∀ b o,p b = some o→w0.heap.size ≤ b) →
   (∀ b,b < w.heap.size→p b = none→w'.heap[b]? = w.heap[b]?) ∧
   ∃ p':Hp,C' p'∧∀ b o,p' b = some o→(p b ≠ none ∨ w.heap.size ≤ b)∧w'.heap[b]? = some o):Sat w0 (G.set i C') w':=by
 obtain ⟨h1,own,h2⟩:=h
 have hli:i < G.length:=(List.getElem?_eq_some_iff.1 hi).1
 obtain ⟨p,hp,hb⟩:=h2 i C hi
 obtain ⟨hkeep,p',hp',hb'⟩:=step p hp (fun b o e=>(hb b o e).2.2) (fun b o e=>(hb b o e).1)
 have hpn:∀ b,own b ≠ i→p b = none:=fun b hne=>by
  cases e:p b with
  | none=>rfl
  | some o=>exact absurd (hb b o e).2.1 hne
 have hpb:∀ b,b < w0.heap.size→p b = none:=fun b hlt=>by
  cases e:p b with
  | none=>rfl
  | some o=>have:=(hb b o e).1; omega
 have hext:Ext w0 w':=by
  refine ⟨hos.trans h1.os,htape.trans h1.tape,hout.trans h1.output,Nat.le_trans h1.size hsz,fun k hk=>?_⟩
  rw [hkeep k (Nat.lt_of_lt_of_le hk h1.size) (hpb k hk)]
  exact h1.block k hk
 refine ⟨hext,fun b=>if b < w.heap.size then own b else i,fun j D hj=>?_⟩
 by_cases hji:i = j
 ·subst hji
  have hD:D = C':=by
   rw [List.getElem?_set_self hli] at hj
   exact (Option.some.inj hj).symm
  subst hD
  refine ⟨p',hp',fun b o hbo=>?_⟩
  obtain ⟨c1,c2⟩:=hb' b o hbo
  rcases c1 with c1 | c1
  ·cases e:p b with
   | none=>exact absurd e c1
   | some o' =>
    obtain ⟨a1,a2,a3⟩:=hb b o' e
    exact ⟨a1,by simp [lt_of_hp a3,a2],c2⟩
  ·exact ⟨Nat.le_trans h1.size c1,by show (if b < w.heap.size then own b else i) = i; rw [if_neg (by omega)],c2⟩
 ·rw [List.getElem?_set_ne hji] at hj
  obtain ⟨q,hq,hbq⟩:=h2 j D hj
  refine ⟨q,hq,fun b o hbo=>?_⟩
  obtain ⟨a1,a2,a3⟩:=hbq b o hbo
  have hlt:=lt_of_hp a3
  refine ⟨a1,by simp [hlt,a2],?_⟩
  rw [hkeep b hlt (hpn b (by rw [a2]; exact fun e=>hji e.symm))]
  exact a3

theorem Sat.weaken {w0 w:World} {G:List Ch} (h:Sat w0 G w) (i:Nat) {C:Ch} (hi:G[i]? = some C) (C':Ch) (hc:∀ p,C p→C' p):Sat w0 (G.set i C') w:=by
 have hli:i < G.length:=(List.getElem?_eq_some_iff.1 hi).1
 obtain ⟨h1,own,h2⟩:=h
 refine ⟨h1,own,fun j D hj=>?_⟩
 by_cases hji:i = j
 ·subst hji
  rw [List.getElem?_set_self hli] at hj
  obtain ⟨p,hp,hb⟩:=h2 i C hi
  exact ⟨p,by have:=Option.some.inj hj; subst this; exact hc p hp,hb⟩
 ·rw [List.getElem?_set_ne hji] at hj
  exact h2 j D hj

theorem Sat.merge {w0 w:World} {G:List Ch} {A B:Ch} (h:Sat w0 (A :: B :: G) w) (C:Ch) (hc:∀ p q r:Hp,A p→B q→p.le r→q.le r→(∀ b,p b = none ∨ q b = none)→C r):Sat w0 (C :: G) w:=by
 obtain ⟨h1,own,h2⟩:=h
 obtain ⟨p,hp,hb⟩:=h2 0 A rfl
 obtain ⟨q,hq,hbq⟩:=h2 1 B rfl
 refine ⟨h1,fun b=>own b - 1,fun j D hj=>?_⟩
 cases j with
 | zero =>
  simp at hj; subst hj
  refine ⟨p.over q,hc p q _ hp hq (Hp.le_over p q) ?_ ?_,fun b o e=>?_⟩
  ·intro b o e
   unfold Hp.over
   cases e':p b with
   | none=>exact e
   | some o'=>have h3:=(hb b o' e').2.1; have h4:=(hbq b o e).2.1; omega
  ·intro b
   cases e:p b with
   | none=>exact .inl rfl
   | some o =>
    cases e':q b with
    | none=>exact .inr rfl
    | some o'=>have h3:=(hb b o e).2.1; have h4:=(hbq b o' e').2.1; omega
  ·unfold Hp.over at e
   split at e
   ·rename_i o' e'; cases e
    obtain ⟨a1,a2,a3⟩:=hb b _ e'
    exact ⟨a1,by simp [a2],a3⟩
   ·obtain ⟨a1,a2,a3⟩:=hbq b _ e
    exact ⟨a1,by simp [a2],a3⟩
 | succ j =>
  obtain ⟨r,hr,hbr⟩:=h2 (j + 2) D (by simpa using hj)
  exact ⟨r,hr,fun b o e=>by obtain ⟨a1,a2,a3⟩:=hbr b o e; exact ⟨a1,by simp [a2],a3⟩⟩

end Go.Vg
namespace Go.Vg

abbrev Fr:=List (Nat × Value)
def look:Fr→Nat→Option Value
  | [],_=>none
  | (j,v) :: r,i=>bif Nat.beq i j then some v else look r i

structure Knows (n:Nat) (fr:Fr) (a:Act):Prop where
  size:a.tmps.size = n
  defers:a.defers = []
  get:∀ i v,look fr i = some v→a.tmps[i]? = some v

def ev (fr:Fr):Operand→Option Value
  | .tmp t=>look fr t
  | .const v=>some v
  | .global g=>some (.pointer (some ⟨g,0,none⟩))
  | .func f=>some (.func (.func f) #[] #[])

theorem look_cons (j:Nat) (v:Value) (r:Fr) (i:Nat):look ((j,v) :: r) i = if i = j then some v else look r i:=by
 by_cases h:i = j
 ·subst h; simp [look]
 ·simp only [look,if_neg h]
  cases hb:Nat.beq i j with
  | false=>rfl
  | true=>exact absurd (Nat.eq_of_beq_eq_true hb) h

theorem Knows.ev {n:Nat} {fr:Fr} {a:Act} (h:Knows n fr a) {x:Operand} {v:Value} (hx:ev fr x = some v):a.eval x = v:=by
 cases x with
 | tmp t=>have:=h.get t v hx; simp [Act.eval,Array.getD_eq_getD_getElem?,this]
 | const u=>exact Option.some.inj hx
 | global g=>exact Option.some.inj hx
 | func f=>exact Option.some.inj hx

theorem Knows.put {n:Nat} {fr:Fr} {a:Act} (h:Knows n fr a) {d:Nat} (hd:Nat.blt d n = true) (v:Value):Knows n ((d,v) :: fr) (a.put (some d) v):=by
 have hdn:d < n:=by simpa using hd
 refine ⟨by simp [Act.put,h.size],h.defers,fun i u hu=>?_⟩
 rw [look_cons] at hu
 by_cases hi:i = d
 ·subst hi
  rw [if_pos rfl] at hu
  simp [Act.put,h.size,hdn,hu]
 ·rw [if_neg hi] at hu
  have:=h.get i u hu
  simp [Act.put,Array.getElem?_setIfInBounds_ne (Ne.symm hi),this]

def Sub (fr:Fr):Fr→Prop
  | []=>True
  | (i,v) :: r=>look fr i = some v∧Sub fr r

theorem Sub.look {fr:Fr}:∀ {r:Fr},Sub fr r→∀ i v,look r i = some v→look fr i = some v
 | [],_,i,v,h=>by simp [Vg.look] at h
 | (j,u) :: r,hs,i,v,h=>by
  rw [look_cons] at h
  by_cases hi:i = j
  ·subst hi; rw [if_pos rfl] at h; cases h; exact hs.1
  ·rw [if_neg hi] at h; exact Sub.look hs.2 i v h

theorem Knows.sub {n:Nat} {fr r:Fr} {a:Act} (h:Knows n fr a) (hs:Sub fr r):Knows n r a :=
 ⟨h.size,h.defers,fun i v hi=>h.get i v (hs.look i v hi)⟩

abbrev As:=World→Prop
abbrev Po:=Exit→Act→World→Prop
def Cont (n:Nat) (K:Act→World→Prop) (fr:Fr) (S:As):Prop:=∀ a w,Knows n fr a→S w→K a w
def T (P:Program) (n:Nat) (c:Code) (fr:Fr) (S:As) (Q:Po):Prop:=∀ a w,Knows n fr a→S w→c.wp P Q a w
def RS (P:Program) (n:Nat) (ops:Array Oper) (Q:Po) (l:List Oper) (fr:Fr) (S:As):Prop:=∀ a w,Knows n fr a→S w→wpList P ops Q l a w

theorem T.conseq {P:Program} {n:Nat} {c:Code} {fr fr':Fr} {S S':As} {Q:Po} (h:T P n c fr' S' Q) (hf:Sub fr fr') (hs:∀ w,S w→S' w):T P n c fr S Q :=
 fun a w k s=>h a w (k.sub hf) (hs w s)
theorem Cont.conseq {n:Nat} {K:Act→World→Prop} {fr fr':Fr} {S S':As} (h:Cont n K fr' S') (hf:Sub fr fr') (hs:∀ w,S w→S' w):Cont n K fr S :=
 fun a w k s=>h a w (k.sub hf) (hs w s)
theorem T.know {P:Program} {n:Nat} {c:Code} {fr:Fr} {S:As} {Q:Po} {p:Prop} (hp:∀ w,S w→p) (h:p→T P n c fr S Q):T P n c fr S Q :=
 fun a w k s=>h (hp w s) a w k s
theorem RS.know {P:Program} {n:Nat} {ops:Array Oper} {Q:Po} {l:List Oper} {fr:Fr} {S:As} {p:Prop} (hp:∀ w,S w→p) (h:p→RS P n ops Q l fr S):RS P n ops Q l fr S :=
 fun a w k s=>h (hp w s) a w k s

section
variable {P:Program} {n:Nat} {fr:Fr} {S:As} {Q:Po}

theorem T.seq {x y:Code} (h:∀ K:Act→World→Prop,(∀ fr' S',T P n y fr' S' Q→Cont n K fr' S')→T P n x fr S (Exit.then K Q)):T P n (x.seq y) fr S Q :=
 fun a w k s=>wp_seq (h (y.wp P Q) (fun _ _ ht=>ht) a w k s)
theorem T.skip (h:Cont n (Q .normal) fr S):T P n .skip fr S Q:=fun a w k s=>wp_skip (h a w k s)
theorem T.ret (h:Cont n (Q .ret) fr S):T P n .ret fr S Q:=fun a w k s=>wp_ret (h a w k s)
theorem T.exit {id:Nat} (h:Cont n (Q (.exit id)) fr S):T P n (.exit id) fr S Q:=fun a w k s=>wp_exit (h a w k s)
def RetTo (Q Q0:Po):Prop:=∀ a w,Q0 .ret a w→Q .ret a w
theorem RetTo.refl (Q:Po):RetTo Q Q:=fun _ _ h=>h
theorem RetTo.seq {Q Q0:Po} {K:Act→World→Prop} (h:RetTo Q Q0):RetTo (Exit.then K Q) Q0:=fun a w q=>h a w q
theorem RetTo.blk {Q Q0:Po} {id:Nat} (h:RetTo Q Q0):RetTo (Exit.inBlock id Q) Q0:=fun a w q=>h a w q
theorem T.retTo {Q0:Po} (hr:RetTo Q Q0) (h:Cont n (Q0 .ret) fr S):T P n .ret fr S Q:=T.ret fun a w k s=>hr a w (h a w k s)
def ExTo (id:Nat) (Q:Po) (K:Act→World→Prop):Prop:=∀ a w,K a w→Q (.exit id) a w
theorem ExTo.seq {id:Nat} {Q:Po} {K K':Act→World→Prop} (h:ExTo id Q K):ExTo id (Exit.then K' Q) K:=fun a w q=>h a w q
theorem ExTo.here {id:Nat} {Q:Po} {K:Act→World→Prop}:ExTo id (Exit.inBlock id (Exit.then K Q)) K:=fun a w q=>by simpa [Exit.inBlock,Exit.then] using q
theorem ExTo.hereN {id:Nat} {Q:Po}:ExTo id (Exit.inBlock id Q) (Q .normal):=fun a w q=>by simpa [Exit.inBlock] using q
theorem T.exitTo {id:Nat} {K:Act→World→Prop} (he:ExTo id Q K) (h:Cont n K fr S):T P n (.exit id) fr S Q:=T.exit fun a w k s=>he a w (h a w k s)
theorem T.rt {Q0:Po} (h:Cont n (Q0 .ret) fr S) (hr:RetTo Q Q0:=by with_reducible ((repeat (first | apply RetTo.seq | apply RetTo.blk)); exact RetTo.refl _)):T P n .ret fr S Q:=T.retTo hr h
theorem T.block {id:Nat} {c:Code} (h:T P n c fr S (Exit.inBlock id Q)):T P n (.block id c) fr S Q:=fun a w k s=>wp_block (h a w k s)
theorem T.cond {c:Operand} {x y:Code} {b:Bool} (hc:ev fr c = some (.bool b)) (ht:b = true→T P n x fr S Q) (hf:b = false→T P n y fr S Q):T P n (.cond c x y) fr S Q :=
 fun a w k s=>wp_cond_split (k.ev hc) (fun h=>ht h a w k s) (fun h=>hf h a w k s)
theorem T.condT {c:Operand} {x y:Code} (hc:ev fr c = some (.bool true)) (ht:T P n x fr S Q):T P n (.cond c x y) fr S Q :=
 fun a w k s=>wp_cond_true (k.ev hc) (ht a w k s)
theorem T.condF {c:Operand} {x y:Code} (hc:ev fr c = some (.bool false)) (ht:T P n y fr S Q):T P n (.cond c x y) fr S Q :=
 fun a w k s=>wp_cond_false (k.ev hc) (ht a w k s)
theorem T.condP {c:Operand} {x y:Code} {p:Prop} [Decidable p] (hc:ev fr c = some (.bool (decide p))) (ht:p→T P n x fr S Q) (hf:¬ p→T P n y fr S Q):T P n (.cond c x y) fr S Q :=
 T.cond hc (fun h=>ht (of_decide_eq_true h)) (fun h=>hf (of_decide_eq_false h))
theorem T.region {id:Nat} {l:List Oper} (h:RS P n l.toArray Q l fr S):T P n (.region id l.toArray false) fr S Q :=
 fun a w k s=>wp_region_lit (h a w k s)

theorem T.loop {σ:Type} (FR:σ→Fr) (SS:σ→As) (I:σ→Prop) (m:σ→Nat) {c:Code} (x0:σ) (hi:I x0) (h0:Sub fr (FR x0)) (hs:∀ w,S w→SS x0 w)
  (round:∀ x,I x→∀ K:Act→World→Prop,(∀ fr' S' x',I x'→m x' < m x→Sub fr' (FR x')→(∀ w,S' w→SS x' w)→Cont n K fr' S')→T P n c (FR x) (SS x) (Exit.then K Q)):T P n (.loop c) fr S Q:=by
 intro a w k s
 refine wp_loop_ghost (fun r a w=>∃ x,I x∧Knows n (FR x) a∧SS x w∧m x = r) (m x0) ⟨x0,hi,k.sub h0,hs w s,rfl⟩ ?_
 rintro r a w ⟨x,hx,hk,hss,rfl⟩
 refine round x hx _ ?_ a w hk hss
 intro fr' S' x' hi' hlt hsub hs' a' w' k' s'
 exact ⟨m x',hlt,x',hi',k'.sub hsub,hs' w' s',rfl⟩
end
end Go.Vg
set_option linter.unusedSimpArgs false
set_option linter.unusedVariables false
namespace Go.Vg

def isAggD:TypeDesc→Bool
  | .struct _=>true
  | .array _ _=>true
  | _=>false
def tySz (P:Program) (t:TypeId):Option (Nat × Bool) :=
  match P.info? t,P.underlying t with
  | some i,some d=>some (i.size,isAggD d)
  | _,_=>none
def slTy (P:Program) (t:TypeId):Option (TypeId × Nat × Nat) :=
  match P.underlying t with
  | some (.slice e)=>(P.info? e).map fun i=>(e,i.size,i.bytes)
  | _=>none
def arTy (P:Program) (t:TypeId):Option (Nat × TypeId × Nat) :=
  match P.underlying t with
  | some (.array n e)=>(P.info? e).map fun i=>(n,e,i.size)
  | _=>none
def fdOff (P:Program) (s:TypeId) (f:Nat):Option Nat :=
  match P.underlying s with
  | some (.struct fs)=>match fs[f]? with
    | some d=>match P.info? d.type with
      | some i=>if i.size = 0 then none else some d.offset
      | none=>none
    | none=>none
  | _=>none
def zeroOf (P:Program) (t:TypeId):Option Value:=(P.info? t).bind (·.zero)

section
variable {P:Program}
theorem run_sizeOf_of {t:TypeId} {sz:Nat} {g:Bool} (h:tySz P t = some (sz,g)) (w:World):(sizeOf t).run P w = .ok sz w:=by
 unfold tySz at h
 split at h
 ·rename_i i d h1 h2; cases h; simp [sizeOf,typeInfo,h1]
 ·cases h
theorem run_isAgg_of {t:TypeId} {sz:Nat} {g:Bool} (h:tySz P t = some (sz,g)) (w:World):(isAgg t).run P w = .ok g w:=by
 unfold tySz at h
 split at h
 ·rename_i i d h1 h2
  cases h
  cases d <;> simp [isAgg,run_underlying h2,isAggD]
 ·cases h
theorem slTy_spec {t e:TypeId} {sz by':Nat} (h:slTy P t = some (e,sz,by')):P.underlying t = some (.slice e)∧∃ i,P.info? e = some i∧i.size = sz∧i.bytes = by':=by
 unfold slTy at h
 split at h
 ·rename_i e' h1
  cases hi:P.info? e' with
  | none=>simp [hi] at h
  | some i=>simp [hi] at h; obtain ⟨rfl,rfl,rfl⟩:=h; exact ⟨h1,i,hi,rfl,rfl⟩
 ·cases h
theorem arTy_spec {t e:TypeId} {n sz:Nat} (h:arTy P t = some (n,e,sz)):P.underlying t = some (.array n e)∧∃ i,P.info? e = some i∧i.size = sz:=by
 unfold arTy at h
 split at h
 ·rename_i n' e' h1
  cases hi:P.info? e' with
  | none=>simp [hi] at h
  | some i=>simp [hi] at h; obtain ⟨rfl,rfl,rfl⟩:=h; exact ⟨h1,i,hi,rfl⟩
 ·cases h
theorem run_sizeOf_info {t:TypeId} {i:TypeInfo} (h:P.info? t = some i) (w:World):(sizeOf t).run P w = .ok i.size w:=by simp [sizeOf,typeInfo,h]
theorem add_lit (b o k:Nat):(⟨b,o,none⟩:Addr).add k = ⟨b,o + k,none⟩:=by unfold Addr.add; split <;> simp_all
end

def Pu (P:Program) (n:Nat) (o:Oper) (fr:Fr) (v:Value):Prop:=∀ a,Knows n fr a→∀ w,(execOp a.eval o).run P w = .ok (.value v) w
def quietRes (P:Program) (S:As) (v:Value):Result Next→Prop
  | .ok (.value u) w'=>S w'∧u = v
  | .ok .skip w'=>S w'∧v = undef
  | .ok (.enter f args) w'=>S w'∧Calls P f args w' (fun e w''=>e = .returned v∧S w'')
  | _=>False
def Qt (P:Program) (n:Nat) (o:Oper) (fr:Fr) (S:As) (v:Value):Prop:=∀ a w,Knows n fr a→S w→quietRes P (fun w'=>Ext w w') v ((execOp a.eval o).run P w)
def ClE (S:As):Prop:=∀ w w',S w→Ext w w'→S w'
theorem ClE.sat (w0:World) (G:List Ch):ClE (Sat w0 G):=fun w w' s e=>s.grow e
def solidRes {ι:Type} (P:Program) (val:ι→Value) (S':ι→As):Result Next→Prop
  | .ok (.value u) w'=>∃ i,u = val i∧S' i w'
  | .ok .skip w'=>∃ i,val i = undef∧S' i w'
  | .ok (.enter f args) w'=>Calls P f args w' (fun e w''=>∃ i,e = .returned (val i)∧S' i w'')
  | _=>False
def Sd (P:Program) (n:Nat) (o:Oper) (fr:Fr) (S:As) {ι:Type} (val:ι→Value) (S':ι→As):Prop:=∀ a w,Knows n fr a→S w→solidRes P val S' ((execOp a.eval o).run P w)

section
variable {P:Program} {n:Nat} {fr:Fr} {S:As} {o:Oper}
theorem Pu.qt {v:Value} (h:Pu P n o fr v):Qt P n o fr S v:=fun a w k s=>by rw [h a k w]; exact ⟨Ext.refl w,rfl⟩
theorem Qt.sd {S C:As} {v:Value} (hc:ClE S) (h:∀ w,S w→C w) (k:Qt P n o fr C v):Sd P n o fr S (fun _:Unit=>v) (fun _=>S):=fun a w kn s=>by
 have:=k a w kn (h w s)
 revert this
 generalize (execOp a.eval o).run P w = r
 intro hq
 cases r with
 | ok x w' =>
  cases x <;> simp only [quietRes,solidRes] at hq ⊢
  case value u=>exact ⟨(),hq.2,hc _ _ s hq.1⟩
  case skip=>exact ⟨(),hq.2,hc _ _ s hq.1⟩
  case enter f args=>exact hq.2.mono fun e w'' ⟨he,hs⟩=>⟨(),he,hc _ _ s hs⟩
 | halt x w'=>exact hq.elim

def dOk (n:Nat):Option Nat→Bool
  | some d=>Nat.blt d n
  | none=>true
def putF (d:Option Nat) (v:Value) (fr:Fr):Fr:=match d with
  | some d=>(d,v) :: fr
  | none=>fr
theorem Knows.putF {a:Act} (h:Knows n fr a) {d:Option Nat} (hd:dOk n d = true) (v:Value):Knows n (putF d v fr) (a.put d v):=by
 cases d with
 | none=>exact h
 | some d=>exact h.put hd v

def gval (ops:Array Oper) (fr:Fr):Option (Nat × Bool)→Option Bool
  | none=>some true
  | some (j,b)=>match ((ops[j]?).bind (·.dst)).bind (look fr) with
    | some (.bool c)=>some (c == b)
    | some _=>some false
    | none=>none
theorem wanted_of {ops:Array Oper} {a:Act} (k:Knows n fr a) {c:Bool} (h:gval ops fr o.guard = some c):Region.wanted o (yielded ops a.tmps) = c:=by
 unfold gval at h
 unfold Region.wanted
 cases hg:o.guard with
 | none=>simp [hg] at h; simp [h]
 | some jb =>
  obtain ⟨j,b⟩:=jb
  simp only [hg] at h
  unfold yielded
  cases hd:(ops[j]?).bind (·.dst) with
  | none=>simp [hd] at h
  | some d =>
   simp only [hd,Option.bind_some] at h ⊢
   cases hl:look fr d with
   | none=>simp [hl] at h
   | some u =>
    rw [k.get d u hl]
    rw [hl] at h
    cases u <;> simp at h ⊢ <;> simp [h]

variable {ops:Array Oper} {Q:Po} {rest:List Oper}
theorem RS.nil (h:Cont n (Q .normal) fr S):RS P n ops Q [] fr S:=fun a w k s=>wpList_nil (h a w k s)
theorem RS.solid {ι:Type} {val:ι→Value} {S':ι→As} (h:Sd P n o fr S val S') (hg:gval ops fr o.guard = some true) (hd:dOk n o.dst = true)
  (hr:∀ i,RS P n ops Q rest (putF o.dst (val i) fr) (S' i)):RS P n ops Q (o :: rest) fr S:=by
 intro a w k s
 unfold wpList
 rw [if_pos (wanted_of k hg)]
 refine .inl ?_
 have:=h a w k s
 unfold Oper.wp
 revert this
 generalize (execOp a.eval o).run P w = r
 intro h
 cases r with
 | ok x w' =>
  cases x <;> simp only [solidRes,Oper.upon] at h ⊢
  case value u=>obtain ⟨i,rfl,hs⟩:=h; exact hr i _ _ (k.putF hd _) hs
  case skip=>obtain ⟨i,hu,hs⟩:=h; rw [← hu]; exact hr i _ _ (k.putF hd _) hs
  case enter f args=>exact h.mono fun e w'' ⟨i,he,hs⟩=>by subst he; exact hr i _ _ (k.putF hd _) hs
 | halt x w'=>exact h.elim
theorem RS.q {v:Value} {w0:World} {G:List Ch} (h:Qt P n o fr (Sat w0 G) v) (hg:gval ops fr o.guard = some true) (hd:dOk n o.dst = true) (hr:RS P n ops Q rest (putF o.dst v fr) (Sat w0 G)):RS P n ops Q (o :: rest) fr (Sat w0 G) :=
 RS.solid (h.sd (ClE.sat w0 G) (fun _ s=>s)) hg hd fun _=>hr
theorem RS.p {v:Value} (h:Pu P n o fr v) (hg:gval ops fr o.guard = some true) (hd:dOk n o.dst = true) (hr:RS P n ops Q rest (putF o.dst v fr) S):RS P n ops Q (o :: rest) fr S:=by
 refine RS.solid (val:=fun _:Unit=>v) (S':=fun _=>S) (fun a w k s=>?_) hg hd fun _=>hr
 rw [h a k w]; exact ⟨(),rfl,s⟩
theorem RS.no (hg:gval ops fr o.guard = some false) (hd:dOk n o.dst = true) (hr:RS P n ops Q rest (putF o.dst undef fr) S):RS P n ops Q (o :: rest) fr S:=by
 intro a w k s
 unfold wpList
 rw [wanted_of k hg,if_neg (by simp)]
 exact hr _ _ (k.putF hd _) s
theorem RS.split {l:List Oper} (d:Nat) {b:Bool} (hb:look fr d = some (.bool b)) (ht:b = true→RS P n ops Q l ((d,.bool true) :: fr) S) (hf:b = false→RS P n ops Q l ((d,.bool false) :: fr) S):RS P n ops Q l fr S:=by
 intro a w k s
 have kb:Knows n ((d,.bool b) :: fr) a:=⟨k.size,k.defers,fun i v hi=>by
  rw [look_cons] at hi
  by_cases h:i = d
  ·subst h; rw [if_pos rfl] at hi; cases hi; exact k.get _ _ hb
  ·rw [if_neg h] at hi; exact k.get _ _ hi⟩
 cases b with
 | true=>exact ht rfl a w kb s
 | false=>exact hf rfl a w kb s
theorem RS.splitP {l:List Oper} (d:Nat) {p:Prop} [Decidable p] (hb:look fr d = some (.bool (decide p))) (ht:p→RS P n ops Q l ((d,.bool true) :: fr) S) (hf:¬ p→RS P n ops Q l ((d,.bool false) :: fr) S):RS P n ops Q l fr S :=
 RS.split d hb (fun h=>ht (of_decide_eq_true h)) (fun h=>hf (of_decide_eq_false h))
end

def binI (op:BinOp) (k:IntKind) (a b:Int):Option Value :=
  match op with
  | .add=>some (.int k (k.wrap (a + b)))
  | .sub=>some (.int k (k.wrap (a - b)))
  | .mul=>some (.int k (k.wrap (a * b)))
  | .eql=>some (.bool (decide (a = b)))
  | .neq=>some (.bool (decide (¬ a = b)))
  | .lss=>some (.bool (decide (a < b)))
  | .leq=>some (.bool (decide (a ≤ b)))
  | .gtr=>some (.bool (decide (b < a)))
  | .geq=>some (.bool (decide (b ≤ a)))
  | .and=>some (.int k (k.wrap ((BitVec.ofInt k.bits a &&& BitVec.ofInt k.bits b).toNat)))
  | .or=>some (.int k (k.wrap ((BitVec.ofInt k.bits a ||| BitVec.ofInt k.bits b).toNat)))
  | .xor=>some (.int k (k.wrap ((BitVec.ofInt k.bits a ^^^ BitVec.ofInt k.bits b).toNat)))
  | _=>none

section
variable {P:Program} {n:Nat} {fr:Fr} {dst:Option Tmp} {ty:TypeId} {pos:String} {aft:Array Edge} {g:Option (Nat × Bool)}
theorem Pu.move {x:Operand} {v:Value} (h:ev fr x = some v):Pu P n ⟨dst,.move x,ty,pos,aft,g⟩ fr v:=fun a k w=>by simp [execOp,k.ev h]
theorem Pu.assign {x:Operand} {v:Value} (h:ev fr x = some v):Pu P n ⟨dst,.assign x,ty,pos,aft,g⟩ fr v:=fun a k w=>by simp [execOp,k.ev h]
theorem Pu.pickT {c x y:Operand} {v:Value} (hc:ev fr c = some (.bool true)) (h:ev fr x = some v):Pu P n ⟨dst,.pick c x y,ty,pos,aft,g⟩ fr v:=fun a k w=>by simp [execOp,k.ev hc,k.ev h,asBool]
theorem Pu.pickF {c x y:Operand} {v:Value} (hc:ev fr c = some (.bool false)) (h:ev fr y = some v):Pu P n ⟨dst,.pick c x y,ty,pos,aft,g⟩ fr v:=fun a k w=>by simp [execOp,k.ev hc,k.ev h,asBool]
theorem Pu.nilCheck {x:Operand} {p:Addr} (h:ev fr x = some (.pointer (some p))):Pu P n ⟨dst,.nilCheck x,ty,pos,aft,g⟩ fr (.pointer (some p)):=fun a k w=>by simp [execOp,k.ev h]
theorem Pu.bin {op:BinOp} {xt yt:TypeId} {x y:Operand} {k:IntKind} {a b:Int} {v:Value} (hx:ev fr x = some (.int k a)) (hy:ev fr y = some (.int k b)) (h:binI op k a b = some v) :
  Pu P n ⟨dst,.binOp op xt x y yt,ty,pos,aft,g⟩ fr v:=fun ac kn w=>by
 cases op <;> simp only [binI,Option.some.injEq,reduceCtorEq] at h <;> subst h <;>
  simp [execOp,kn.ev hx,kn.ev hy,binOp,eqGuard,Op.intArith,Op.intCmp,Op.intBits,BEq.beq,bne,GT.gt,GE.ge]
theorem Pu.addS {xt yt:TypeId} {x y:Operand} {a b:Int} (hx:ev fr x = some (.int .i64 a)) (hy:ev fr y = some (.int .i64 b)) (h:-9223372036854775808 ≤ a + b∧a + b ≤ 9223372036854775807) :
  Pu P n ⟨dst,.binOp .add xt x y yt,ty,pos,aft,g⟩ fr (.int .i64 (a + b)):=Pu.bin hx hy (by rw [binI,IntWalk.i64_in _ h])
theorem Pu.subS {xt yt:TypeId} {x y:Operand} {a b:Int} (hx:ev fr x = some (.int .i64 a)) (hy:ev fr y = some (.int .i64 b)) (h:-9223372036854775808 ≤ a - b∧a - b ≤ 9223372036854775807) :
  Pu P n ⟨dst,.binOp .sub xt x y yt,ty,pos,aft,g⟩ fr (.int .i64 (a - b)):=Pu.bin hx hy (by rw [binI,IntWalk.i64_in _ h])
theorem Pu.mulS {xt yt:TypeId} {x y:Operand} {a b:Int} (hx:ev fr x = some (.int .i64 a)) (hy:ev fr y = some (.int .i64 b)) (h:-9223372036854775808 ≤ a * b∧a * b ≤ 9223372036854775807) :
  Pu P n ⟨dst,.binOp .mul xt x y yt,ty,pos,aft,g⟩ fr (.int .i64 (a * b)):=Pu.bin hx hy (by rw [binI,IntWalk.i64_in _ h])
theorem Pu.quoW {xt yt:TypeId} {x y:Operand} {k:IntKind} {a b:Int} (hx:ev fr x = some (.int k a)) (hy:ev fr y = some (.int k b)) (h:b ≠ 0) :
  Pu P n ⟨dst,.binOp .quo xt x y yt,ty,pos,aft,g⟩ fr (.int k (k.wrap (a.tdiv b))):=fun ac kn w=>by
 simp [execOp,kn.ev hx,kn.ev hy,binOp,eqGuard,Op.intDiv,h]
theorem Pu.quoN {xt yt:TypeId} {x y:Operand} {a b:Int} (hx:ev fr x = some (.int .i64 a)) (hy:ev fr y = some (.int .i64 b)) (h:0 ≤ a∧a ≤ 9223372036854775807∧1 ≤ b) :
  Pu P n ⟨dst,.binOp .quo xt x y yt,ty,pos,aft,g⟩ fr (.int .i64 (a / b)):=by
 have:=Pu.quoW (P:=P) (n:=n) (dst:=dst) (ty:=ty) (pos:=pos) (aft:=aft) (g:=g) (xt:=xt) (yt:=yt) hx hy (by omega)
 rwa [IntWalk.i64_quo a b h] at this
theorem Pu.remW {xt yt:TypeId} {x y:Operand} {k:IntKind} {a b:Int} (hx:ev fr x = some (.int k a)) (hy:ev fr y = some (.int k b)) (h:b ≠ 0) :
  Pu P n ⟨dst,.binOp .rem xt x y yt,ty,pos,aft,g⟩ fr (.int k (a.tmod b)):=fun ac kn w=>by
 simp [execOp,kn.ev hx,kn.ev hy,binOp,eqGuard,Op.intDiv,h]
theorem Pu.remN {xt yt:TypeId} {x y:Operand} {k:IntKind} {a b:Int} (hx:ev fr x = some (.int k a)) (hy:ev fr y = some (.int k b)) (h:0 ≤ a∧1 ≤ b) :
  Pu P n ⟨dst,.binOp .rem xt x y yt,ty,pos,aft,g⟩ fr (.int k (a % b)):=by
 have:=Pu.remW (P:=P) (n:=n) (dst:=dst) (ty:=ty) (pos:=pos) (aft:=aft) (g:=g) (xt:=xt) (yt:=yt) hx hy (by omega)
 rwa [IntWalk.rem_in a b h.1] at this
theorem Pu.not {x:Operand} {t:TypeId} {b:Bool} (hx:ev fr x = some (.bool b)):Pu P n ⟨dst,.unOp .not t x,ty,pos,aft,g⟩ fr (.bool (!b)):=fun ac kn w=>by
 simp [execOp,kn.ev hx,Op.unary]
theorem Pu.negS {x:Operand} {t:TypeId} {a:Int} (hx:ev fr x = some (.int .i64 a)) (h:-9223372036854775807 ≤ a∧a ≤ 9223372036854775807):Pu P n ⟨dst,.unOp .neg t x,ty,pos,aft,g⟩ fr (.int .i64 (-a)):=fun ac kn w=>by
 simp [execOp,kn.ev hx,Op.unary,Op.intArith,IntWalk.i64_in (-a) (by omega)]
theorem Pu.conv {x:Operand} {s d:TypeId} {k k':IntKind} {a:Int} (hs:(P.underlying s).isSome = true) (hd:P.underlying d = some (.int k')) (hx:ev fr x = some (.int k a)) :
  Pu P n ⟨dst,.convert s d x,ty,pos,aft,g⟩ fr (.int k' (k'.wrap a)):=fun ac kn w=>by
 obtain ⟨ds,hs'⟩:=Option.isSome_iff_exists.mp hs
 simp [execOp,kn.ev hx,convert,run_underlying hs',run_underlying hd,Conv.intToInt]
theorem Pu.fieldAddr {s:TypeId} {x:Operand} {f off b o:Nat} (hf:fdOff P s f = some off) (hx:ev fr x = some (.pointer (some ⟨b,o,none⟩))) :
  Pu P n ⟨dst,.fieldAddr s x f,ty,pos,aft,g⟩ fr (.pointer (some ⟨b,o + off,none⟩)):=fun ac kn w=>by
 unfold fdOff at hf
 split at hf
 ·rename_i fs h1
  split at hf
  ·rename_i d h2
   split at hf
   ·rename_i i h3
    split at hf
    ·cases hf
    ·rename_i h4
     cases hf
     simp [execOp,kn.ev hx,Instr.fieldAt,run_underlying h1,h2,Instr.sureAddr,fieldPlace,run_sizeOf_info h3,h4,add_lit]
   ·cases hf
  ·cases hf
 ·cases hf
theorem Pu.indexSl {t e:TypeId} {x i:Operand} {sz by' b o len cap:Nat} {k:IntKind} {j:Int} (ht:slTy P t = some (e,sz,by')) (hx:ev fr x = some (.slice (some ⟨b,o,none⟩) len cap)) (hi:ev fr i = some (.int k j)) (h:0 ≤ j∧j < len) :
  Pu P n ⟨dst,.indexAddr t x i,ty,pos,aft,g⟩ fr (.pointer (some ⟨b,o + j.toNat * sz,none⟩)):=fun ac kn w=>by
 obtain ⟨h1,inf,h2,rfl,_⟩:=slTy_spec ht
 simp [execOp,kn.ev hx,kn.ev hi,Instr.indexAt,asIntOf,run_underlying h1,run_sizeOf_info h2,h.1,h.2,add_lit]
theorem Pu.indexAr {t e:TypeId} {x i:Operand} {sz b o len:Nat} {k:IntKind} {j:Int} (ht:arTy P t = some (len,e,sz)) (hx:ev fr x = some (.pointer (some ⟨b,o,none⟩))) (hi:ev fr i = some (.int k j)) (h:0 ≤ j∧j < len) :
  Pu P n ⟨dst,.indexAddr t x i,ty,pos,aft,g⟩ fr (.pointer (some ⟨b,o + j.toNat * sz,none⟩)):=fun ac kn w=>by
 obtain ⟨h1,inf,h2,rfl⟩:=arTy_spec ht
 simp [execOp,kn.ev hx,kn.ev hi,Instr.indexAt,asIntOf,run_underlying h1,run_sizeOf_info h2,h.1,h.2,add_lit,Instr.sureAddr]
theorem Pu.lenSl {e:TypeId} {x:Operand} {at':TypeId} {sz by' len cap:Nat} {p:Option Addr} (ht:slTy P at' = some (e,sz,by')) (hx:ev fr x = some (.slice p len cap)) :
  Pu P n ⟨dst,.call { callee:=.builtin .len,args:=#[x],argTypes:=#[at'] },ty,pos,aft,g⟩ fr (.int .i64 len):=fun ac kn w=>by
 obtain ⟨h1,_⟩:=slTy_spec ht
 simp [execOp,kn.ev hx,resolve,invoke,builtin,Builtin.len_,run_underlying h1,goInt]
theorem Pu.extract {x:Operand} {i:Nat} {vs:Array Value} {v:Value} (hx:ev fr x = some (.tuple vs)) (h:vs[i]? = some v):Pu P n ⟨dst,.extract x i,ty,pos,aft,g⟩ fr v:=fun ac kn w=>by
 simp [execOp,kn.ev hx,Instr.extract,h]
theorem Pu.sliceH {t e:TypeId} {x hi:Operand} {sz by' len cap:Nat} {p:Option Addr} {k:IntKind} {j:Int} (ht:slTy P t = some (e,sz,by')) (hx:ev fr x = some (.slice p len cap)) (hh:ev fr hi = some (.int k j)) (h:0 ≤ j∧j ≤ cap) :
  Pu P n ⟨dst,.slice t x none (some hi) none,ty,pos,aft,g⟩ fr (.slice p j.toNat cap):=fun ac kn w=>by
 obtain ⟨h1,inf,h2,rfl,_⟩:=slTy_spec ht
 have ho:0 = cap ∨ ¬ 0 = cap:=by omega
 simp [execOp,kn.ev hx,kn.ev hh,Instr.sliceAt,Instr.slice,Instr.sliceBounds,Instr.sliceBound,asIntOf,run_underlying h1,run_sizeOf_info h2,h.1,h.2,Addr.add]
end
end Go.Vg
