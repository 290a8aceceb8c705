/-
  Texts of one's own, joined: VA VB VC VD VE VF VG.
-/
import Derived.Still
import Derived.Tactics
import Derived.Below
import Derived.Laws.Append
import Derived.Deep.LoopGhost
import Derived.WalkKit
import Derived.Laws.MakeOwn
import Derived.Laws.Small
namespace Go.Vg
open Go.RowKit (Below)

abbrev Ext (w w':World):Prop:=Below w.heap.size w w'

theorem Ext.refl (w:World):Ext w w:=Below.refl _ w
theorem Ext.trans {a b c:World} (h:Ext a b) (k:Ext b c):Ext a c:=Below.trans h (Below.mono k h.size)
theorem Ext.drew (w:World):Ext w w.drew:=Below.drew (Below.refl _ w)
theorem Ext.drawn (w:World) (n:Nat):Ext w { w with drawn:=n }:=⟨rfl,rfl,rfl,Nat.le_refl _,fun _ _=>rfl⟩
theorem Ext.alloc (w:World) (o:Obj):Ext w (w.alloc o):=Below.alloc (Below.refl _ w) (Nat.le_refl _) o

abbrev Hp:=Nat→Option Obj
def hpOf (w:World):Hp:=fun k=>w.heap[k]?
def Hp.le (h h':Hp):Prop:=∀ b o,h b = some o→h' b = some o
def Hp.over (h B:Hp):Hp:=fun b=>match h b with | some o=>some o | none=>B b

def Hp.off (h:Hp) (g:Nat):Hp:=fun b=>if b = g then none else h b
theorem Hp.off_le (h:Hp) (g:Nat):(h.off g).le h:=fun b o e=>by
  unfold Hp.off at e
  split at e
  · cases e
  · exact e
theorem Hp.le_refl (h:Hp):h.le h:=fun _ _ e=>e
theorem Hp.le_trans {a b c:Hp} (h:a.le b) (k:b.le c):a.le c:=fun x o e=>k x o (h x o e)
theorem Hp.over_le {h B k:Hp} (h1:h.le k) (h2:B.le k):(h.over B).le k:=by
  intro b o e
  unfold Hp.over at e
  split at e
  · rename_i o' e'; cases e; exact h1 b _ e'
  · exact h2 b o e
theorem Hp.le_over (h B:Hp):h.le (h.over B):=by
  intro b o e; simp [Hp.over,e]

theorem lt_of_hp {w:World} {b:Nat} {o:Obj} (h:w.heap[b]? = some o):b < w.heap.size:=(Array.getElem?_eq_some_iff.1 h).1
theorem Ext.hp {w w':World} (h:Ext w w'):(hpOf w).le (hpOf w'):=fun b o e=>by
  show w'.heap[b]? = some o
  rw [h.block b (lt_of_hp e)]; exact e

abbrev Ch:=Hp→Prop

def Sat (w0:World) (G:List Ch) (w:World):Prop :=
  Ext w0 w∧∃ own:Nat→Nat,∀ i C,G[i]? = some C→∃ h:Hp,C h∧∀ b o,h b = some o→w0.heap.size ≤ b∧own b = i∧w.heap[b]? = some o

theorem Sat.ext {w0 w:World} {G:List Ch} (h:Sat w0 G w):Ext w0 w:=h.1

theorem Sat.start (w:World):Sat w [] w:=⟨Ext.refl w,fun _=>0,fun i C h=>by simp at h⟩

theorem Sat.grow {w0 w w':World} {G:List Ch} (h:Sat w0 G w) (e:Ext w w'):Sat w0 G w':=by
  obtain ⟨h1,own,h2⟩:=h
  refine ⟨h1.trans e,own,fun i C hi=>?_⟩
  obtain ⟨p,hp,hb⟩:=h2 i C hi
  refine ⟨p,hp,fun b o hbo=>?_⟩
  obtain ⟨a1,a2,a3⟩:=hb b o hbo
  exact ⟨a1,a2,by rw [e.block b (lt_of_hp a3)]; exact a3⟩

theorem Sat.get {w0 w:World} {G:List Ch} (h:Sat w0 G w) (i:Nat) {C:Ch} (hi:G[i]? = some C) :
    ∃ p:Hp,C p∧p.le (hpOf w)∧∀ b o,p b = some o→w0.heap.size ≤ b:=by
  obtain ⟨_,own,h2⟩:=h
  obtain ⟨p,hp,hb⟩:=h2 i C hi
  exact ⟨p,hp,fun b o e=>(hb b o e).2.2,fun b o e=>(hb b o e).1⟩

theorem Sat.pick {w0 w:World} {G G':List Ch} (h:Sat w0 G w) (f:List Nat) (hn:f.Nodup) (hg:f.map (fun i=>G[i]?) = G'.map some):Sat w0 G' w:=by
  obtain ⟨h1,own,h2⟩:=h
  refine ⟨h1,fun b=>f.idxOf (own b),fun j C hj=>?_⟩
  have hj':(G'.map some)[j]? = some (some C):=by simp [hj]
  rw [← hg,List.getElem?_map] at hj'
  obtain ⟨i,hi,hgi⟩:∃ i,f[j]? = some i∧G[i]? = some C:=by
    cases hf:f[j]? with
    | none=>simp [hf] at hj'
    | some i=>exact ⟨i,rfl,by simpa [hf] using hj'⟩
  obtain ⟨p,hp,hb⟩:=h2 i C hgi
  refine ⟨p,hp,fun b o e=>?_⟩
  obtain ⟨a1,a2,a3⟩:=hb b o e
  refine ⟨a1,?_,a3⟩
  show f.idxOf (own b) = j
  rw [a2]
  obtain ⟨hlt,hfe⟩:=List.getElem?_eq_some_iff.1 hi
  rw [← hfe]
  exact hn.idxOf_getElem j hlt

theorem Sat.new {w0 w w':World} {G:List Ch} (h:Sat w0 G w) (e:Ext w w') (C:Ch) (p:Hp) (hp:C p) (hl:p.le (hpOf w')) (hf:∀ b o,p b = some o→w.heap.size ≤ b):Sat w0 (G ++ [C]) w':=by
  obtain ⟨h1,own,h2⟩:=h
  refine ⟨h1.trans e,fun b=>if b < w.heap.size then own b else G.length,fun i D hi=>?_⟩
  rw [List.getElem?_append] at hi
  split at hi
  · obtain ⟨q,hq,hb⟩:=h2 i D hi
    refine ⟨q,hq,fun b o hbo=>?_⟩
    obtain ⟨a1,a2,a3⟩:=hb b o hbo
    have hlt:=lt_of_hp a3
    exact ⟨a1,by simp [hlt,a2],by rw [e.block b hlt]; exact a3⟩
  · rename_i hge
    have hi0:i - G.length = 0:=by
      rcases Nat.lt_or_ge (i - G.length) 1 with h | h
      · omega
      · simp [List.getElem?_eq_none (l:=[C]) (by simpa using h)] at hi
    rw [hi0] at hi
    simp at hi; subst hi
    refine ⟨p,hp,fun b o hbo=>?_⟩
    have hge':=hf b o hbo
    exact ⟨Nat.le_trans h1.size hge',by show (if b < w.heap.size then own b else G.length) = i; rw [if_neg (by omega)]; omega,hl b o hbo⟩

theorem Sat.join {w0 w w':World} {G D:List Ch} (h:Sat w0 G w) (k:Sat w D w'):Sat w0 (G ++ D) w':=by
  obtain ⟨h1,own,h2⟩:=h
  obtain ⟨k1,own',k2⟩:=k
  refine ⟨h1.trans k1,fun b=>if b < w.heap.size then own b else G.length + own' b,fun i C hi=>?_⟩
  rw [List.getElem?_append] at hi
  split at hi
  · obtain ⟨q,hq,hb⟩:=h2 i C hi
    refine ⟨q,hq,fun b o hbo=>?_⟩
    obtain ⟨a1,a2,a3⟩:=hb b o hbo
    have hlt:=lt_of_hp a3
    exact ⟨a1,by simp [hlt,a2],by rw [k1.block b hlt]; exact a3⟩
  · rename_i hge
    obtain ⟨q,hq,hb⟩:=k2 _ C hi
    refine ⟨q,hq,fun b o hbo=>?_⟩
    obtain ⟨a1,a2,a3⟩:=hb b o hbo
    refine ⟨Nat.le_trans h1.size a1,?_,a3⟩
    show (if b < w.heap.size then own b else G.length + own' b) = i
    rw [if_neg (by omega),a2]
    omega

theorem Sat.addEmpty {w0 w:World} {G:List Ch} (h:Sat w0 G w) (C:Ch) (hc:∀ p,C p):Sat w0 (G ++ [C]) w:=by
  refine h.new (Ext.refl w) C (fun _=>none) (hc _) (fun b o e=>by cases e) (fun b o e=>by cases e)

theorem Sat.turn {w0 w w':World} {G:List Ch} (h:Sat w0 G w) (i:Nat) {C:Ch} (hi:G[i]? = some C) (C':Ch)
    (hos:w'.os = w.os) (htape:w'.tape = w.tape) (hout:w'.output = w.output) (hsz:w.heap.size ≤ w'.heap.size)
    (step:∀ p:Hp,C p→p.le (hpOf w)→(∀ b o,p b = some o→w0.heap.size ≤ b) →
      (∀ b,b < w.heap.size→p b = none→w'.heap[b]? = w.heap[b]?) ∧
      ∃ p':Hp,C' p'∧∀ b o,p' b = some o→(p b ≠ none ∨ w.heap.size ≤ b)∧w'.heap[b]? = some o):Sat w0 (G.set i C') w':=by
  obtain ⟨h1,own,h2⟩:=h
  have hli:i < G.length:=(List.getElem?_eq_some_iff.1 hi).1
  obtain ⟨p,hp,hb⟩:=h2 i C hi
  obtain ⟨hkeep,p',hp',hb'⟩:=step p hp (fun b o e=>(hb b o e).2.2) (fun b o e=>(hb b o e).1)
  have hpn:∀ b,own b ≠ i→p b = none:=fun b hne=>by
    cases e:p b with
    | none=>rfl
    | some o=>exact absurd (hb b o e).2.1 hne
  have hpb:∀ b,b < w0.heap.size→p b = none:=fun b hlt=>by
    cases e:p b with
    | none=>rfl
    | some o=>have:=(hb b o e).1; omega
  have hext:Ext w0 w':=by
    refine ⟨hos.trans h1.os,htape.trans h1.tape,hout.trans h1.output,Nat.le_trans h1.size hsz,fun k hk=>?_⟩
    rw [hkeep k (Nat.lt_of_lt_of_le hk h1.size) (hpb k hk)]
    exact h1.block k hk
  refine ⟨hext,fun b=>if b < w.heap.size then own b else i,fun j D hj=>?_⟩
  by_cases hji:i = j
  · subst hji
    have hD:D = C':=by
      rw [List.getElem?_set_self hli] at hj
      exact (Option.some.inj hj).symm
    subst hD
    refine ⟨p',hp',fun b o hbo=>?_⟩
    obtain ⟨c1,c2⟩:=hb' b o hbo
    rcases c1 with c1 | c1
    · cases e:p b with
      | none=>exact absurd e c1
      | some o' =>
        obtain ⟨a1,a2,a3⟩:=hb b o' e
        exact ⟨a1,by simp [lt_of_hp a3,a2],c2⟩
    · exact ⟨Nat.le_trans h1.size c1,by show (if b < w.heap.size then own b else i) = i; rw [if_neg (by omega)],c2⟩
  · rw [List.getElem?_set_ne hji] at hj
    obtain ⟨q,hq,hbq⟩:=h2 j D hj
    refine ⟨q,hq,fun b o hbo=>?_⟩
    obtain ⟨a1,a2,a3⟩:=hbq b o hbo
    have hlt:=lt_of_hp a3
    refine ⟨a1,by simp [hlt,a2],?_⟩
    rw [hkeep b hlt (hpn b (by rw [a2]; exact fun e=>hji e.symm))]
    exact a3

theorem Sat.weaken {w0 w:World} {G:List Ch} (h:Sat w0 G w) (i:Nat) {C:Ch} (hi:G[i]? = some C) (C':Ch) (hc:∀ p,C p→C' p):Sat w0 (G.set i C') w:=by
  have hli:i < G.length:=(List.getElem?_eq_some_iff.1 hi).1
  obtain ⟨h1,own,h2⟩:=h
  refine ⟨h1,own,fun j D hj=>?_⟩
  by_cases hji:i = j
  · subst hji
    rw [List.getElem?_set_self hli] at hj
    obtain ⟨p,hp,hb⟩:=h2 i C hi
    exact ⟨p,by have:=Option.some.inj hj; subst this; exact hc p hp,hb⟩
  · rw [List.getElem?_set_ne hji] at hj
    exact h2 j D hj

theorem Sat.merge {w0 w:World} {G:List Ch} {A B:Ch} (h:Sat w0 (A :: B :: G) w) (C:Ch) (hc:∀ p q r:Hp,A p→B q→p.le r→q.le r→(∀ b,p b = none ∨ q b = none)→C r):Sat w0 (C :: G) w:=by
  obtain ⟨h1,own,h2⟩:=h
  obtain ⟨p,hp,hb⟩:=h2 0 A rfl
  obtain ⟨q,hq,hbq⟩:=h2 1 B rfl
  refine ⟨h1,fun b=>own b - 1,fun j D hj=>?_⟩
  cases j with
  | zero =>
    simp at hj; subst hj
    refine ⟨p.over q,hc p q _ hp hq (Hp.le_over p q) ?_ ?_,fun b o e=>?_⟩
    · intro b o e
      unfold Hp.over
      cases e':p b with
      | none=>exact e
      | some o'=>have h3:=(hb b o' e').2.1; have h4:=(hbq b o e).2.1; omega
    · intro b
      cases e:p b with
      | none=>exact .inl rfl
      | some o =>
        cases e':q b with
        | none=>exact .inr rfl
        | some o'=>have h3:=(hb b o e).2.1; have h4:=(hbq b o' e').2.1; omega
    · unfold Hp.over at e
      split at e
      · rename_i o' e'; cases e
        obtain ⟨a1,a2,a3⟩:=hb b _ e'
        exact ⟨a1,by simp [a2],a3⟩
      · obtain ⟨a1,a2,a3⟩:=hbq b _ e
        exact ⟨a1,by simp [a2],a3⟩
  | succ j =>
    obtain ⟨r,hr,hbr⟩:=h2 (j + 2) D (by simpa using hj)
    exact ⟨r,hr,fun b o e=>by obtain ⟨a1,a2,a3⟩:=hbr b o e; exact ⟨a1,by simp [a2],a3⟩⟩

end Go.Vg
namespace Go.Vg

abbrev Fr:=List (Nat × Value)
def look:Fr→Nat→Option Value
  | [],_=>none
  | (j,v) :: r,i=>bif Nat.beq i j then some v else look r i

structure Knows (n:Nat) (fr:Fr) (a:Act):Prop where
  size:a.tmps.size = n
  defers:a.defers = []
  get:∀ i v,look fr i = some v→a.tmps[i]? = some v

def ev (fr:Fr):Operand→Option Value
  | .tmp t=>look fr t
  | .const v=>some v
  | .global g=>some (.pointer (some ⟨g,0,none⟩))
  | .func f=>some (.func (.func f) #[] #[])

theorem look_cons (j:Nat) (v:Value) (r:Fr) (i:Nat):look ((j,v) :: r) i = if i = j then some v else look r i:=by
  by_cases h:i = j
  · subst h; simp [look]
  · simp only [look,if_neg h]
    cases hb:Nat.beq i j with
    | false=>rfl
    | true=>exact absurd (Nat.eq_of_beq_eq_true hb) h

theorem Knows.ev {n:Nat} {fr:Fr} {a:Act} (h:Knows n fr a) {x:Operand} {v:Value} (hx:ev fr x = some v):a.eval x = v:=by
  cases x with
  | tmp t=>have:=h.get t v hx; simp [Act.eval,Array.getD_eq_getD_getElem?,this]
  | const u=>exact Option.some.inj hx
  | global g=>exact Option.some.inj hx
  | func f=>exact Option.some.inj hx

theorem Knows.put {n:Nat} {fr:Fr} {a:Act} (h:Knows n fr a) {d:Nat} (hd:Nat.blt d n = true) (v:Value):Knows n ((d,v) :: fr) (a.put (some d) v):=by
  have hdn:d < n:=by simpa using hd
  refine ⟨by simp [Act.put,h.size],h.defers,fun i u hu=>?_⟩
  rw [look_cons] at hu
  by_cases hi:i = d
  · subst hi
    rw [if_pos rfl] at hu
    simp [Act.put,h.size,hdn,hu]
  · rw [if_neg hi] at hu
    have:=h.get i u hu
    simp [Act.put,Array.getElem?_setIfInBounds_ne (Ne.symm hi),this]

def Sub (fr:Fr):Fr→Prop
  | []=>True
  | (i,v) :: r=>look fr i = some v∧Sub fr r

theorem Sub.look {fr:Fr}:∀ {r:Fr},Sub fr r→∀ i v,look r i = some v→look fr i = some v
  | [],_,i,v,h=>by simp [Vg.look] at h
  | (j,u) :: r,hs,i,v,h=>by
    rw [look_cons] at h
    by_cases hi:i = j
    · subst hi; rw [if_pos rfl] at h; cases h; exact hs.1
    · rw [if_neg hi] at h; exact Sub.look hs.2 i v h

theorem Knows.sub {n:Nat} {fr r:Fr} {a:Act} (h:Knows n fr a) (hs:Sub fr r):Knows n r a :=
  ⟨h.size,h.defers,fun i v hi=>h.get i v (hs.look i v hi)⟩

abbrev As:=World→Prop
abbrev Po:=Exit→Act→World→Prop
def Cont (n:Nat) (K:Act→World→Prop) (fr:Fr) (S:As):Prop:=∀ a w,Knows n fr a→S w→K a w
def T (P:Program) (n:Nat) (c:Code) (fr:Fr) (S:As) (Q:Po):Prop:=∀ a w,Knows n fr a→S w→c.wp P Q a w
def RS (P:Program) (n:Nat) (ops:Array Oper) (Q:Po) (l:List Oper) (fr:Fr) (S:As):Prop:=∀ a w,Knows n fr a→S w→wpList P ops Q l a w

theorem T.conseq {P:Program} {n:Nat} {c:Code} {fr fr':Fr} {S S':As} {Q:Po} (h:T P n c fr' S' Q) (hf:Sub fr fr') (hs:∀ w,S w→S' w):T P n c fr S Q :=
  fun a w k s=>h a w (k.sub hf) (hs w s)
theorem Cont.conseq {n:Nat} {K:Act→World→Prop} {fr fr':Fr} {S S':As} (h:Cont n K fr' S') (hf:Sub fr fr') (hs:∀ w,S w→S' w):Cont n K fr S :=
  fun a w k s=>h a w (k.sub hf) (hs w s)
theorem T.know {P:Program} {n:Nat} {c:Code} {fr:Fr} {S:As} {Q:Po} {p:Prop} (hp:∀ w,S w→p) (h:p→T P n c fr S Q):T P n c fr S Q :=
  fun a w k s=>h (hp w s) a w k s
theorem RS.know {P:Program} {n:Nat} {ops:Array Oper} {Q:Po} {l:List Oper} {fr:Fr} {S:As} {p:Prop} (hp:∀ w,S w→p) (h:p→RS P n ops Q l fr S):RS P n ops Q l fr S :=
  fun a w k s=>h (hp w s) a w k s

section
variable {P:Program} {n:Nat} {fr:Fr} {S:As} {Q:Po}

theorem T.seq {x y:Code} (h:∀ K:Act→World→Prop,(∀ fr' S',T P n y fr' S' Q→Cont n K fr' S')→T P n x fr S (Exit.then K Q)):T P n (x.seq y) fr S Q :=
  fun a w k s=>wp_seq (h (y.wp P Q) (fun _ _ ht=>ht) a w k s)
theorem T.skip (h:Cont n (Q .normal) fr S):T P n .skip fr S Q:=fun a w k s=>wp_skip (h a w k s)
theorem T.ret (h:Cont n (Q .ret) fr S):T P n .ret fr S Q:=fun a w k s=>wp_ret (h a w k s)
theorem T.exit {id:Nat} (h:Cont n (Q (.exit id)) fr S):T P n (.exit id) fr S Q:=fun a w k s=>wp_exit (h a w k s)
def RetTo (Q Q0:Po):Prop:=∀ a w,Q0 .ret a w→Q .ret a w
theorem RetTo.refl (Q:Po):RetTo Q Q:=fun _ _ h=>h
theorem RetTo.seq {Q Q0:Po} {K:Act→World→Prop} (h:RetTo Q Q0):RetTo (Exit.then K Q) Q0:=fun a w q=>h a w q
theorem RetTo.blk {Q Q0:Po} {id:Nat} (h:RetTo Q Q0):RetTo (Exit.inBlock id Q) Q0:=fun a w q=>h a w q
theorem T.retTo {Q0:Po} (hr:RetTo Q Q0) (h:Cont n (Q0 .ret) fr S):T P n .ret fr S Q:=T.ret fun a w k s=>hr a w (h a w k s)
def ExTo (id:Nat) (Q:Po) (K:Act→World→Prop):Prop:=∀ a w,K a w→Q (.exit id) a w
theorem ExTo.seq {id:Nat} {Q:Po} {K K':Act→World→Prop} (h:ExTo id Q K):ExTo id (Exit.then K' Q) K:=fun a w q=>h a w q
theorem ExTo.here {id:Nat} {Q:Po} {K:Act→World→Prop}:ExTo id (Exit.inBlock id (Exit.then K Q)) K:=fun a w q=>by simpa [Exit.inBlock,Exit.then] using q
theorem ExTo.hereN {id:Nat} {Q:Po}:ExTo id (Exit.inBlock id Q) (Q .normal):=fun a w q=>by simpa [Exit.inBlock] using q
theorem T.exitTo {id:Nat} {K:Act→World→Prop} (he:ExTo id Q K) (h:Cont n K fr S):T P n (.exit id) fr S Q:=T.exit fun a w k s=>he a w (h a w k s)
theorem T.rt {Q0:Po} (h:Cont n (Q0 .ret) fr S) (hr:RetTo Q Q0:=by with_reducible ((repeat (first | apply RetTo.seq | apply RetTo.blk)); exact RetTo.refl _)):T P n .ret fr S Q:=T.retTo hr h
theorem T.block {id:Nat} {c:Code} (h:T P n c fr S (Exit.inBlock id Q)):T P n (.block id c) fr S Q:=fun a w k s=>wp_block (h a w k s)
theorem T.cond {c:Operand} {x y:Code} {b:Bool} (hc:ev fr c = some (.bool b)) (ht:b = true→T P n x fr S Q) (hf:b = false→T P n y fr S Q):T P n (.cond c x y) fr S Q :=
  fun a w k s=>wp_cond_split (k.ev hc) (fun h=>ht h a w k s) (fun h=>hf h a w k s)
theorem T.condT {c:Operand} {x y:Code} (hc:ev fr c = some (.bool true)) (ht:T P n x fr S Q):T P n (.cond c x y) fr S Q :=
  fun a w k s=>wp_cond_true (k.ev hc) (ht a w k s)
theorem T.condF {c:Operand} {x y:Code} (hc:ev fr c = some (.bool false)) (ht:T P n y fr S Q):T P n (.cond c x y) fr S Q :=
  fun a w k s=>wp_cond_false (k.ev hc) (ht a w k s)
theorem T.condP {c:Operand} {x y:Code} {p:Prop} [Decidable p] (hc:ev fr c = some (.bool (decide p))) (ht:p→T P n x fr S Q) (hf:¬ p→T P n y fr S Q):T P n (.cond c x y) fr S Q :=
  T.cond hc (fun h=>ht (of_decide_eq_true h)) (fun h=>hf (of_decide_eq_false h))
theorem T.region {id:Nat} {l:List Oper} (h:RS P n l.toArray Q l fr S):T P n (.region id l.toArray false) fr S Q :=
  fun a w k s=>wp_region_lit (h a w k s)

theorem T.loop {σ:Type} (FR:σ→Fr) (SS:σ→As) (I:σ→Prop) (m:σ→Nat) {c:Code} (x0:σ) (hi:I x0) (h0:Sub fr (FR x0)) (hs:∀ w,S w→SS x0 w)
    (round:∀ x,I x→∀ K:Act→World→Prop,(∀ fr' S' x',I x'→m x' < m x→Sub fr' (FR x')→(∀ w,S' w→SS x' w)→Cont n K fr' S')→T P n c (FR x) (SS x) (Exit.then K Q)):T P n (.loop c) fr S Q:=by
  intro a w k s
  refine wp_loop_ghost (fun r a w=>∃ x,I x∧Knows n (FR x) a∧SS x w∧m x = r) (m x0) ⟨x0,hi,k.sub h0,hs w s,rfl⟩ ?_
  rintro r a w ⟨x,hx,hk,hss,rfl⟩
  refine round x hx _ ?_ a w hk hss
  intro fr' S' x' hi' hlt hsub hs' a' w' k' s'
  exact ⟨m x',hlt,x',hi',k'.sub hsub,hs' w' s',rfl⟩
end
end Go.Vg
set_option linter.unusedSimpArgs false
set_option linter.unusedVariables false
namespace Go.Vg

def isAggD:TypeDesc→Bool
  | .struct _=>true
  | .array _ _=>true
  | _=>false
def tySz (P:Program) (t:TypeId):Option (Nat × Bool) :=
  match P.info? t,P.underlying t with
  | some i,some d=>some (i.size,isAggD d)
  | _,_=>none
def slTy (P:Program) (t:TypeId):Option (TypeId × Nat × Nat) :=
  match P.underlying t with
  | some (.slice e)=>(P.info? e).map fun i=>(e,i.size,i.bytes)
  | _=>none
def fdOff (P:Program) (s:TypeId) (f:Nat):Option Nat :=
  match P.underlying s with
  | some (.struct fs)=>match fs[f]? with
    | some d=>match P.info? d.type with
      | some i=>if i.size = 0 then none else some d.offset
      | none=>none
    | none=>none
  | _=>none
def zeroOf (P:Program) (t:TypeId):Option Value:=(P.info? t).bind (·.zero)

section
variable {P:Program}
theorem run_sizeOf_of {t:TypeId} {sz:Nat} {g:Bool} (h:tySz P t = some (sz,g)) (w:World):(sizeOf t).run P w = .ok sz w:=by
  unfold tySz at h
  split at h
  · rename_i i d h1 h2; cases h; simp [sizeOf,typeInfo,h1]
  · cases h
theorem run_isAgg_of {t:TypeId} {sz:Nat} {g:Bool} (h:tySz P t = some (sz,g)) (w:World):(isAgg t).run P w = .ok g w:=by
  unfold tySz at h
  split at h
  · rename_i i d h1 h2
    cases h
    cases d <;> simp [isAgg,run_underlying h2,isAggD]
  · cases h
theorem slTy_spec {t e:TypeId} {sz by':Nat} (h:slTy P t = some (e,sz,by')):P.underlying t = some (.slice e)∧∃ i,P.info? e = some i∧i.size = sz∧i.bytes = by':=by
  unfold slTy at h
  split at h
  · rename_i e' h1
    cases hi:P.info? e' with
    | none=>simp [hi] at h
    | some i=>simp [hi] at h; obtain ⟨rfl,rfl,rfl⟩:=h; exact ⟨h1,i,hi,rfl,rfl⟩
  · cases h
theorem run_sizeOf_info {t:TypeId} {i:TypeInfo} (h:P.info? t = some i) (w:World):(sizeOf t).run P w = .ok i.size w:=by simp [sizeOf,typeInfo,h]
theorem add_lit (b o k:Nat):(⟨b,o,none⟩:Addr).add k = ⟨b,o + k,none⟩:=by unfold Addr.add; split <;> simp_all
end

def Pu (P:Program) (n:Nat) (o:Oper) (fr:Fr) (v:Value):Prop:=∀ a,Knows n fr a→∀ w,(execOp a.eval o).run P w = .ok (.value v) w
def quietRes (P:Program) (S:As) (v:Value):Result Next→Prop
  | .ok (.value u) w'=>S w'∧u = v
  | .ok .skip w'=>S w'∧v = undef
  | .ok (.enter f args) w'=>S w'∧Calls P f args w' (fun e w''=>e = .returned v∧S w'')
  | _=>False
def Qt (P:Program) (n:Nat) (o:Oper) (fr:Fr) (S:As) (v:Value):Prop:=∀ a w,Knows n fr a→S w→quietRes P (fun w'=>Ext w w') v ((execOp a.eval o).run P w)
def ClE (S:As):Prop:=∀ w w',S w→Ext w w'→S w'
theorem ClE.sat (w0:World) (G:List Ch):ClE (Sat w0 G):=fun w w' s e=>s.grow e
def solidRes {ι:Type} (P:Program) (val:ι→Value) (S':ι→As):Result Next→Prop
  | .ok (.value u) w'=>∃ i,u = val i∧S' i w'
  | .ok .skip w'=>∃ i,val i = undef∧S' i w'
  | .ok (.enter f args) w'=>Calls P f args w' (fun e w''=>∃ i,e = .returned (val i)∧S' i w'')
  | _=>False
def Sd (P:Program) (n:Nat) (o:Oper) (fr:Fr) (S:As) {ι:Type} (val:ι→Value) (S':ι→As):Prop:=∀ a w,Knows n fr a→S w→solidRes P val S' ((execOp a.eval o).run P w)

section
variable {P:Program} {n:Nat} {fr:Fr} {S:As} {o:Oper}
theorem Pu.qt {v:Value} (h:Pu P n o fr v):Qt P n o fr S v:=fun a w k s=>by rw [h a k w]; exact ⟨Ext.refl w,rfl⟩
theorem Qt.sd {S C:As} {v:Value} (hc:ClE S) (h:∀ w,S w→C w) (k:Qt P n o fr C v):Sd P n o fr S (fun _:Unit=>v) (fun _=>S):=fun a w kn s=>by
  have:=k a w kn (h w s)
  revert this
  generalize (execOp a.eval o).run P w = r
  intro hq
  cases r with
  | ok x w' =>
    cases x <;> simp only [quietRes,solidRes] at hq ⊢
    case value u=>exact ⟨(),hq.2,hc _ _ s hq.1⟩
    case skip=>exact ⟨(),hq.2,hc _ _ s hq.1⟩
    case enter f args=>exact hq.2.mono fun e w'' ⟨he,hs⟩=>⟨(),he,hc _ _ s hs⟩
  | halt x w'=>exact hq.elim

def dOk (n:Nat):Option Nat→Bool
  | some d=>Nat.blt d n
  | none=>true
def putF (d:Option Nat) (v:Value) (fr:Fr):Fr:=match d with
  | some d=>(d,v) :: fr
  | none=>fr
theorem Knows.putF {a:Act} (h:Knows n fr a) {d:Option Nat} (hd:dOk n d = true) (v:Value):Knows n (putF d v fr) (a.put d v):=by
  cases d with
  | none=>exact h
  | some d=>exact h.put hd v

def gval (ops:Array Oper) (fr:Fr):Option (Nat × Bool)→Option Bool
  | none=>some true
  | some (j,b)=>match ((ops[j]?).bind (·.dst)).bind (look fr) with
    | some (.bool c)=>some (c == b)
    | some _=>some false
    | none=>none
theorem wanted_of {ops:Array Oper} {a:Act} (k:Knows n fr a) {c:Bool} (h:gval ops fr o.guard = some c):Region.wanted o (yielded ops a.tmps) = c:=by
  unfold gval at h
  unfold Region.wanted
  cases hg:o.guard with
  | none=>simp [hg] at h; simp [h]
  | some jb =>
    obtain ⟨j,b⟩:=jb
    simp only [hg] at h
    unfold yielded
    cases hd:(ops[j]?).bind (·.dst) with
    | none=>simp [hd] at h
    | some d =>
      simp only [hd,Option.bind_some] at h ⊢
      cases hl:look fr d with
      | none=>simp [hl] at h
      | some u =>
        rw [k.get d u hl]
        rw [hl] at h
        cases u <;> simp at h ⊢ <;> simp [h]

variable {ops:Array Oper} {Q:Po} {rest:List Oper}
theorem RS.nil (h:Cont n (Q .normal) fr S):RS P n ops Q [] fr S:=fun a w k s=>wpList_nil (h a w k s)
theorem RS.solid {ι:Type} {val:ι→Value} {S':ι→As} (h:Sd P n o fr S val S') (hg:gval ops fr o.guard = some true) (hd:dOk n o.dst = true)
    (hr:∀ i,RS P n ops Q rest (putF o.dst (val i) fr) (S' i)):RS P n ops Q (o :: rest) fr S:=by
  intro a w k s
  unfold wpList
  rw [if_pos (wanted_of k hg)]
  refine .inl ?_
  have:=h a w k s
  unfold Oper.wp
  revert this
  generalize (execOp a.eval o).run P w = r
  intro h
  cases r with
  | ok x w' =>
    cases x <;> simp only [solidRes,Oper.upon] at h ⊢
    case value u=>obtain ⟨i,rfl,hs⟩:=h; exact hr i _ _ (k.putF hd _) hs
    case skip=>obtain ⟨i,hu,hs⟩:=h; rw [← hu]; exact hr i _ _ (k.putF hd _) hs
    case enter f args=>exact h.mono fun e w'' ⟨i,he,hs⟩=>by subst he; exact hr i _ _ (k.putF hd _) hs
  | halt x w'=>exact h.elim
theorem RS.q {v:Value} {w0:World} {G:List Ch} (h:Qt P n o fr (Sat w0 G) v) (hg:gval ops fr o.guard = some true) (hd:dOk n o.dst = true) (hr:RS P n ops Q rest (putF o.dst v fr) (Sat w0 G)):RS P n ops Q (o :: rest) fr (Sat w0 G) :=
  RS.solid (h.sd (ClE.sat w0 G) (fun _ s=>s)) hg hd fun _=>hr
theorem RS.p {v:Value} (h:Pu P n o fr v) (hg:gval ops fr o.guard = some true) (hd:dOk n o.dst = true) (hr:RS P n ops Q rest (putF o.dst v fr) S):RS P n ops Q (o :: rest) fr S:=by
  refine RS.solid (val:=fun _:Unit=>v) (S':=fun _=>S) (fun a w k s=>?_) hg hd fun _=>hr
  rw [h a k w]; exact ⟨(),rfl,s⟩
theorem RS.no (hg:gval ops fr o.guard = some false) (hd:dOk n o.dst = true) (hr:RS P n ops Q rest (putF o.dst undef fr) S):RS P n ops Q (o :: rest) fr S:=by
  intro a w k s
  unfold wpList
  rw [wanted_of k hg,if_neg (by simp)]
  exact hr _ _ (k.putF hd _) s
theorem RS.split {l:List Oper} (d:Nat) {b:Bool} (hb:look fr d = some (.bool b)) (ht:b = true→RS P n ops Q l ((d,.bool true) :: fr) S) (hf:b = false→RS P n ops Q l ((d,.bool false) :: fr) S):RS P n ops Q l fr S:=by
  intro a w k s
  have kb:Knows n ((d,.bool b) :: fr) a:=⟨k.size,k.defers,fun i v hi=>by
    rw [look_cons] at hi
    by_cases h:i = d
    · subst h; rw [if_pos rfl] at hi; cases hi; exact k.get _ _ hb
    · rw [if_neg h] at hi; exact k.get _ _ hi⟩
  cases b with
  | true=>exact ht rfl a w kb s
  | false=>exact hf rfl a w kb s
theorem RS.splitP {l:List Oper} (d:Nat) {p:Prop} [Decidable p] (hb:look fr d = some (.bool (decide p))) (ht:p→RS P n ops Q l ((d,.bool true) :: fr) S) (hf:¬ p→RS P n ops Q l ((d,.bool false) :: fr) S):RS P n ops Q l fr S :=
  RS.split d hb (fun h=>ht (of_decide_eq_true h)) (fun h=>hf (of_decide_eq_false h))
end

def binI (op:BinOp) (k:IntKind) (a b:Int):Option Value :=
  match op with
  | .add=>some (.int k (k.wrap (a + b)))
  | .sub=>some (.int k (k.wrap (a - b)))
  | .mul=>some (.int k (k.wrap (a * b)))
  | .eql=>some (.bool (decide (a = b)))
  | .neq=>some (.bool (decide (¬ a = b)))
  | .lss=>some (.bool (decide (a < b)))
  | .leq=>some (.bool (decide (a ≤ b)))
  | .gtr=>some (.bool (decide (b < a)))
  | .geq=>some (.bool (decide (b ≤ a)))
  | .and=>some (.int k (k.wrap ((BitVec.ofInt k.bits a &&& BitVec.ofInt k.bits b).toNat)))
  | .or=>some (.int k (k.wrap ((BitVec.ofInt k.bits a ||| BitVec.ofInt k.bits b).toNat)))
  | .xor=>some (.int k (k.wrap ((BitVec.ofInt k.bits a ^^^ BitVec.ofInt k.bits b).toNat)))
  | _=>none

section
variable {P:Program} {n:Nat} {fr:Fr} {dst:Option Tmp} {ty:TypeId} {pos:String} {aft:Array Edge} {g:Option (Nat × Bool)}
theorem Pu.move {x:Operand} {v:Value} (h:ev fr x = some v):Pu P n ⟨dst,.move x,ty,pos,aft,g⟩ fr v:=fun a k w=>by simp [execOp,k.ev h]
theorem Pu.assign {x:Operand} {v:Value} (h:ev fr x = some v):Pu P n ⟨dst,.assign x,ty,pos,aft,g⟩ fr v:=fun a k w=>by simp [execOp,k.ev h]
theorem Pu.pickT {c x y:Operand} {v:Value} (hc:ev fr c = some (.bool true)) (h:ev fr x = some v):Pu P n ⟨dst,.pick c x y,ty,pos,aft,g⟩ fr v:=fun a k w=>by simp [execOp,k.ev hc,k.ev h,asBool]
theorem Pu.pickF {c x y:Operand} {v:Value} (hc:ev fr c = some (.bool false)) (h:ev fr y = some v):Pu P n ⟨dst,.pick c x y,ty,pos,aft,g⟩ fr v:=fun a k w=>by simp [execOp,k.ev hc,k.ev h,asBool]
theorem Pu.nilCheck {x:Operand} {p:Addr} (h:ev fr x = some (.pointer (some p))):Pu P n ⟨dst,.nilCheck x,ty,pos,aft,g⟩ fr (.pointer (some p)):=fun a k w=>by simp [execOp,k.ev h]
theorem Pu.bin {op:BinOp} {xt yt:TypeId} {x y:Operand} {k:IntKind} {a b:Int} {v:Value} (hx:ev fr x = some (.int k a)) (hy:ev fr y = some (.int k b)) (h:binI op k a b = some v) :
    Pu P n ⟨dst,.binOp op xt x y yt,ty,pos,aft,g⟩ fr v:=fun ac kn w=>by
  cases op <;> simp only [binI,Option.some.injEq,reduceCtorEq] at h <;> subst h <;>
    simp [execOp,kn.ev hx,kn.ev hy,binOp,eqGuard,Op.intArith,Op.intCmp,Op.intBits,BEq.beq,bne,GT.gt,GE.ge]
theorem Pu.addS {xt yt:TypeId} {x y:Operand} {a b:Int} (hx:ev fr x = some (.int .i64 a)) (hy:ev fr y = some (.int .i64 b)) (h:-9223372036854775808 ≤ a + b∧a + b ≤ 9223372036854775807) :
    Pu P n ⟨dst,.binOp .add xt x y yt,ty,pos,aft,g⟩ fr (.int .i64 (a + b)):=Pu.bin hx hy (by rw [binI,IntWalk.i64_in _ h])
theorem Pu.subS {xt yt:TypeId} {x y:Operand} {a b:Int} (hx:ev fr x = some (.int .i64 a)) (hy:ev fr y = some (.int .i64 b)) (h:-9223372036854775808 ≤ a - b∧a - b ≤ 9223372036854775807) :
    Pu P n ⟨dst,.binOp .sub xt x y yt,ty,pos,aft,g⟩ fr (.int .i64 (a - b)):=Pu.bin hx hy (by rw [binI,IntWalk.i64_in _ h])
theorem Pu.mulS {xt yt:TypeId} {x y:Operand} {a b:Int} (hx:ev fr x = some (.int .i64 a)) (hy:ev fr y = some (.int .i64 b)) (h:-9223372036854775808 ≤ a * b∧a * b ≤ 9223372036854775807) :
    Pu P n ⟨dst,.binOp .mul xt x y yt,ty,pos,aft,g⟩ fr (.int .i64 (a * b)):=Pu.bin hx hy (by rw [binI,IntWalk.i64_in _ h])
theorem Pu.not {x:Operand} {t:TypeId} {b:Bool} (hx:ev fr x = some (.bool b)):Pu P n ⟨dst,.unOp .not t x,ty,pos,aft,g⟩ fr (.bool (!b)):=fun ac kn w=>by
  simp [execOp,kn.ev hx,Op.unary]
theorem Pu.conv {x:Operand} {s d:TypeId} {k k':IntKind} {a:Int} (hs:(P.underlying s).isSome = true) (hd:P.underlying d = some (.int k')) (hx:ev fr x = some (.int k a)) :
    Pu P n ⟨dst,.convert s d x,ty,pos,aft,g⟩ fr (.int k' (k'.wrap a)):=fun ac kn w=>by
  obtain ⟨ds,hs'⟩:=Option.isSome_iff_exists.mp hs
  simp [execOp,kn.ev hx,convert,run_underlying hs',run_underlying hd,Conv.intToInt]
theorem Pu.fieldAddr {s:TypeId} {x:Operand} {f off b o:Nat} (hf:fdOff P s f = some off) (hx:ev fr x = some (.pointer (some ⟨b,o,none⟩))) :
    Pu P n ⟨dst,.fieldAddr s x f,ty,pos,aft,g⟩ fr (.pointer (some ⟨b,o + off,none⟩)):=fun ac kn w=>by
  unfold fdOff at hf
  split at hf
  · rename_i fs h1
    split at hf
    · rename_i d h2
      split at hf
      · rename_i i h3
        split at hf
        · cases hf
        · rename_i h4
          cases hf
          simp [execOp,kn.ev hx,Instr.fieldAt,run_underlying h1,h2,Instr.sureAddr,fieldPlace,run_sizeOf_info h3,h4,add_lit]
      · cases hf
    · cases hf
  · cases hf
theorem Pu.indexSl {t e:TypeId} {x i:Operand} {sz by' b o len cap:Nat} {k:IntKind} {j:Int} (ht:slTy P t = some (e,sz,by')) (hx:ev fr x = some (.slice (some ⟨b,o,none⟩) len cap)) (hi:ev fr i = some (.int k j)) (h:0 ≤ j∧j < len) :
    Pu P n ⟨dst,.indexAddr t x i,ty,pos,aft,g⟩ fr (.pointer (some ⟨b,o + j.toNat * sz,none⟩)):=fun ac kn w=>by
  obtain ⟨h1,inf,h2,rfl,_⟩:=slTy_spec ht
  simp [execOp,kn.ev hx,kn.ev hi,Instr.indexAt,asIntOf,run_underlying h1,run_sizeOf_info h2,h.1,h.2,add_lit]
theorem Pu.lenSl {e:TypeId} {x:Operand} {at':TypeId} {sz by' len cap:Nat} {p:Option Addr} (ht:slTy P at' = some (e,sz,by')) (hx:ev fr x = some (.slice p len cap)) :
    Pu P n ⟨dst,.call { callee:=.builtin .len,args:=#[x],argTypes:=#[at'] },ty,pos,aft,g⟩ fr (.int .i64 len):=fun ac kn w=>by
  obtain ⟨h1,_⟩:=slTy_spec ht
  simp [execOp,kn.ev hx,resolve,invoke,builtin,Builtin.len_,run_underlying h1,goInt]
theorem Pu.extract {x:Operand} {i:Nat} {vs:Array Value} {v:Value} (hx:ev fr x = some (.tuple vs)) (h:vs[i]? = some v):Pu P n ⟨dst,.extract x i,ty,pos,aft,g⟩ fr v:=fun ac kn w=>by
  simp [execOp,kn.ev hx,Instr.extract,h]
theorem Pu.sliceH {t e:TypeId} {x hi:Operand} {sz by' len cap:Nat} {p:Option Addr} {k:IntKind} {j:Int} (ht:slTy P t = some (e,sz,by')) (hx:ev fr x = some (.slice p len cap)) (hh:ev fr hi = some (.int k j)) (h:0 ≤ j∧j ≤ cap) :
    Pu P n ⟨dst,.slice t x none (some hi) none,ty,pos,aft,g⟩ fr (.slice p j.toNat cap):=fun ac kn w=>by
  obtain ⟨h1,inf,h2,rfl,_⟩:=slTy_spec ht
  have ho:0 = cap ∨ ¬ 0 = cap:=by omega
  simp [execOp,kn.ev hx,kn.ev hh,Instr.sliceAt,Instr.slice,Instr.sliceBounds,Instr.sliceBound,asIntOf,run_underlying h1,run_sizeOf_info h2,h.1,h.2,Addr.add]
end
end Go.Vg
set_option linter.unusedSimpArgs false
set_option linter.unusedVariables false
namespace Go.Vg

class Enc (α:Type) where
  sz:Nat
  R:Hp→α→List Value→Prop
  len:∀ {h x cs},R h x cs→cs.length = sz
  one:∀ {h x cs},R h x cs→∀ u ∈ cs,u.oneCell' = true
  mono:∀ {h h' x cs},h.le h'→R h x cs→R h' x cs
open Enc (R)

instance:Enc Int where
  sz:=1
  R _ x cs:=cs = [.int .i64 x]
  len:=fun h=>by rw [h]; rfl
  one:=fun h u hu=>by rw [h] at hu; simp at hu; subst hu; rfl
  mono:=fun _ h=>h
instance:Enc Bool where
  sz:=1
  R _ x cs:=cs = [.bool x]
  len:=fun h=>by rw [h]; rfl
  one:=fun h u hu=>by rw [h] at hu; simp at hu; subst hu; rfl
  mono:=fun _ h=>h
instance:Enc UInt8 where
  sz:=1
  R _ x cs:=cs = [.int .u8 x.toNat]
  len:=fun h=>by rw [h]; rfl
  one:=fun h u hu=>by rw [h] at hu; simp at hu; subst hu; rfl
  mono:=fun _ h=>h
instance:Enc UInt64 where
  sz:=1
  R _ x cs:=cs = [.int .u64 x.toNat]
  len:=fun h=>by rw [h]; rfl
  one:=fun h u hu=>by rw [h] at hu; simp at hu; subst hu; rfl
  mono:=fun _ h=>h

def RF {α:Type} [Enc α] (h:Hp):List α→List Value→Prop
  | [],cs=>cs = []
  | x :: xs,cs=>∃ c r,cs = c ++ r∧R h x c∧RF h xs r

section
variable {α:Type} [Enc α] {h h':Hp}
theorem RF.mono (hl:h.le h'):∀ {xs:List α} {cs:List Value},RF h xs cs→RF h' xs cs
  | [],_,e=>e
  | _ :: _,_,⟨c,r,e,hx,hr⟩=>⟨c,r,e,Enc.mono hl hx,RF.mono hl hr⟩
theorem RF.length:∀ {xs:List α} {cs:List Value},RF h xs cs→cs.length = xs.length * Enc.sz α
  | [],_,e=>by subst e; simp
  | _ :: xs,_,⟨c,r,e,hx,hr⟩=>by subst e; simp [Enc.len hx,RF.length hr,Nat.add_mul]; omega
theorem RF.one:∀ {xs:List α} {cs:List Value},RF h xs cs→∀ u ∈ cs,u.oneCell' = true
  | [],_,e,u,hu=>by subst e; cases hu
  | _ :: xs,_,⟨c,r,e,hx,hr⟩,u,hu=>by
    subst e
    rcases List.mem_append.1 hu with hu | hu
    · exact Enc.one hx u hu
    · exact RF.one hr u hu
theorem RF.append:∀ {xs ys:List α} {cs ds:List Value},RF h xs cs→RF h ys ds→RF h (xs ++ ys) (cs ++ ds)
  | [],_,_,_,e,hy=>by subst e; exact hy
  | _ :: xs,_,_,_,⟨c,r,e,hx,hr⟩,hy=>by subst e; exact ⟨c,_,by simp,hx,RF.append hr hy⟩
theorem RF.single {x:α} {c:List Value} (hx:R h x c):RF h [x] c:=⟨c,[],by simp,hx,rfl⟩
theorem RF.get:∀ {xs:List α} {cs:List Value},RF h xs cs→∀ {i:Nat} {x:α},xs[i]? = some x→∃ c,R h x c∧∀ j v,c[j]? = some v→cs[i * Enc.sz α + j]? = some v
  | [],_,_,i,x,hx=>by simp at hx
  | y :: xs,_,⟨c,r,e,hy,hr⟩,0,x,hx=>by
    simp at hx; subst hx; subst e
    exact ⟨c,hy,fun j v hj=>by rw [Nat.zero_mul,Nat.zero_add,List.getElem?_append_left (List.getElem?_eq_some_iff.1 hj).1]; exact hj⟩
  | y :: xs,_,⟨c,r,e,hy,hr⟩,i + 1,x,hx=>by
    subst e
    obtain ⟨d,hd,hg⟩:=RF.get hr (i:=i) (x:=x) (by simpa using hx)
    refine ⟨d,hd,fun j v hj=>?_⟩
    have hc:=Enc.len hy
    rw [List.getElem?_append_right (by rw [hc,Nat.add_mul]; omega),hc]
    have:=hg j v hj
    rwa [show (i + 1) * Enc.sz α + j - Enc.sz α = i * Enc.sz α + j by rw [Nat.add_mul]; omega]
theorem RF.set:∀ {xs:List α} {cs:List Value},RF h xs cs→∀ {i:Nat} {x:α} {c:List Value},i < xs.length→R h x c→RF h (xs.set i x) (cs.take (i * Enc.sz α) ++ c ++ cs.drop (i * Enc.sz α + Enc.sz α))
  | [],_,_,i,x,c,hi,_=>by simp at hi
  | y :: xs,_,⟨d,r,e,hy,hr⟩,0,x,c,_,hx=>by
    subst e
    have hd:=Enc.len hy
    refine ⟨c,r,?_,hx,hr⟩
    rw [Nat.zero_mul,Nat.zero_add,← hd,List.drop_left]
    simp
  | y :: xs,_,⟨d,r,e,hy,hr⟩,i + 1,x,c,hi,hx=>by
    subst e
    have hd:=Enc.len hy
    have ih:=RF.set hr (i:=i) (by simpa using hi) hx
    refine ⟨d,_,?_,hy,ih⟩
    have e1:(i + 1) * Enc.sz α = d.length + i * Enc.sz α:=by rw [hd,Nat.add_mul]; omega
    rw [e1,List.take_append,List.drop_append]
    simp only [List.append_assoc,Nat.add_sub_cancel_left]
    rw [List.take_of_length_le (by omega),show d.length + i * Enc.sz α + Enc.sz α - d.length = i * Enc.sz α + Enc.sz α by omega,List.drop_of_length_le (by omega)]
    simp
theorem RF.take {xs:List α} {cs:List Value} (hr:RF h xs cs) (k:Nat):RF h (xs.take k) (cs.take (k * Enc.sz α)):=by
  induction k generalizing xs cs with
  | zero=>simp [RF]
  | succ k ih =>
    cases xs with
    | nil=>rw [show cs = [] from hr]; simp [RF]
    | cons y xs =>
      obtain ⟨c,r,e,hy,hr⟩:=hr
      subst e
      refine ⟨c,_,?_,hy,ih hr⟩
      have hc:=Enc.len hy
      rw [show (k + 1) * Enc.sz α = c.length + k * Enc.sz α by rw [hc,Nat.add_mul]; omega,List.take_append]
      rw [List.take_of_length_le (by omega)]; simp
theorem RF.drop {xs:List α} {cs:List Value} (hr:RF h xs cs) (k:Nat):RF h (xs.drop k) (cs.drop (k * Enc.sz α)):=by
  induction k generalizing xs cs with
  | zero=>simpa using hr
  | succ k ih =>
    cases xs with
    | nil=>rw [show cs = [] from hr]; simp [RF]
    | cons y xs =>
      obtain ⟨c,r,e,hy,hr⟩:=hr
      subst e
      have hc:=Enc.len hy
      have:=ih hr
      rw [show (k + 1) * Enc.sz α = c.length + k * Enc.sz α by rw [hc,Nat.add_mul]; omega,List.drop_append,List.drop_of_length_le (Nat.le_add_right _ _),Nat.add_sub_cancel_left]
      simpa using this
theorem RF.replicate {x:α} {c:List Value} (hx:R h x c):∀ n,RF h (List.replicate n x) (List.replicate n c).flatten
  | 0=>by simp [RF]
  | n + 1=>⟨c,_,by simp [List.replicate_succ],hx,RF.replicate hx n⟩
end

def AtH (h:Hp) (b o:Nat) (cs:List Value):Prop:=∃ c t f,h b = some (.cells c t f)∧∀ j v,cs[j]? = some v→c[o + j]? = some v
theorem AtH.mono {h h':Hp} {b o:Nat} {cs:List Value} (hl:h.le h'):AtH h b o cs→AtH h' b o cs:=fun ⟨c,t,f,e,k⟩=>⟨c,t,f,hl _ _ e,k⟩
theorem AtH.cell {w:World} {b o:Nat} {cs:List Value} (h:AtH (hpOf w) b o cs) {j:Nat} {v:Value} (hj:cs[j]? = some v):w.cell? ⟨b,o + j,none⟩ = some v:=by
  obtain ⟨c,t,f,e,k⟩:=h
  have e':w.heap[b]? = some (.cells c t f):=e
  simp [World.cell?,e',k j v hj]

def SlR {α:Type} [Enc α] (h:Hp) (xs:List α) (p:Option Addr) (cap:Nat):Prop :=
  xs.length ≤ cap∧cap ≤ maxLen∧(xs = [] ∨ ∃ b o cs,p = some ⟨b,o,none⟩∧RF h xs cs∧AtH h b o cs)
theorem SlR.mono {α:Type} [Enc α] {h h':Hp} {xs:List α} {p:Option Addr} {cap:Nat} (hl:h.le h') (s:SlR h xs p cap):SlR h' xs p cap :=
  ⟨s.1,s.2.1,s.2.2.imp id fun ⟨b,o,cs,e,hr,ha⟩=>⟨b,o,cs,e,hr.mono hl,ha.mono hl⟩⟩

instance {α:Type} [Enc α]:Enc (List α) where
  sz:=1
  R h xs cs:=∃ p cap,cs = [.slice p xs.length cap]∧SlR h xs p cap
  len:=fun ⟨p,cap,e,_⟩=>by rw [e]; rfl
  one:=fun ⟨p,cap,e,_⟩ u hu=>by rw [e] at hu; simp at hu; subst hu; rfl
  mono:=fun hl ⟨p,cap,e,s⟩=>⟨p,cap,e,s.mono hl⟩

def nilH:Hp:=fun _=>none
theorem nilH_le (h:Hp):nilH.le h:=fun _ _ e=>by cases e
def blk (g:Nat) (cs:List Value) (e:TypeId):Ch:=fun h=>h g = some (.cells cs.toArray e (0,0))
def row {α:Type} [Enc α] (B:Hp) (e:TypeId) (v:Value) (xs:List α):Ch:=fun h =>
  (v = .slice none 0 0∧xs = []) ∨
  ∃ g cap cs sp,v = .slice (some ⟨g,0,none⟩) xs.length cap∧h g = some (.cells (cs ++ sp).toArray e (0,0))∧xs.length ≤ cap∧cap ≤ maxLen∧(cs ++ sp).length = cap * Enc.sz α∧RF ((h.off g).over B) xs cs
section
variable {w0 w:World} {G:List Ch}
theorem Sat.getBlk {k g:Nat} {cs:List Value} {e:TypeId} (h:Sat w0 G w) (hk:G[k]? = some (blk g cs e)):w.heap[g]? = some (.cells cs.toArray e (0,0))∧w0.heap.size ≤ g:=by
  obtain ⟨p,hp,hl,hb⟩:=h.get k hk
  exact ⟨hl _ _ hp,hb _ _ hp⟩
theorem Sat.getRow {α:Type} [Enc α] {k:Nat} {B:Hp} {e:TypeId} {v:Value} {xs:List α} (h:Sat w0 G w) (hk:G[k]? = some (row B e v xs)) (hB:B.le (hpOf w)):R (hpOf w) xs [v]:=by
  obtain ⟨p,hp,hl,hb⟩:=h.get k hk
  rcases hp with ⟨rfl,rfl⟩ | ⟨g,cap,cs,sp,rfl,hg,hle,hm,hlen,hr⟩
  · exact ⟨none,0,rfl,by simp,by simp,.inl rfl⟩
  · refine ⟨_,cap,rfl,hle,hm,.inr ⟨g,0,cs,rfl,hr.mono (Hp.over_le (Hp.le_trans (Hp.off_le _ _) hl) hB),⟨_,e,_,hl _ _ hg,fun j v hj=>?_⟩⟩⟩
    rw [Nat.zero_add,List.getElem?_toArray,List.getElem?_append_left (List.getElem?_eq_some_iff.1 hj).1]
    exact hj
end

def Rc (S:As) (b o:Nat) (cs:List Value):Prop:=∀ w,S w→∀ j v,cs[j]? = some v→w.cell? ⟨b,o + j,none⟩ = some v
def Rd {α:Type} [Enc α] (S:As) (x:α) (cs:List Value):Prop:=∀ w,S w→R (hpOf w) x cs

section
variable {w0:World} {G:List Ch} {S:As}
theorem Rd.base {α:Type} [Enc α] {x:α} {cs:List Value} (h:R (hpOf w0) x cs):Rd (Sat w0 G) x cs:=fun w s=>Enc.mono s.ext.hp h
theorem Rd.ofRowN {α:Type} [Enc α] (k:Nat) {e:TypeId} {v:Value} {xs:List α} (hk:G[k]? = some (row nilH e v xs)):Rd (Sat w0 G) xs [v]:=fun w s=>s.getRow hk (nilH_le _)
theorem Rd.elem {α:Type} [Enc α] {xs:List α} {p:Option Addr} {len cap:Nat} (h:Rd S xs [.slice p len cap]) {i:Nat} {x:α} (hx:xs[i]? = some x) {b o:Nat} (hp:p = some ⟨b,o,none⟩) {w:World} (s:S w) :
    ∃ c,R (hpOf w) x c∧∀ j v,c[j]? = some v→w.cell? ⟨b,o + i * Enc.sz α + j,none⟩ = some v:=by
  obtain ⟨p',cap',e,sl⟩:=h w s
  simp at e
  obtain ⟨rfl,rfl,rfl⟩:=e
  rcases sl.2.2 with rfl | ⟨b',o',cs,rfl,hr,ha⟩
  · simp at hx
  · simp at hp
    obtain ⟨rfl,rfl⟩:=hp
    obtain ⟨c,hc,hg⟩:=hr.get hx
    exact ⟨c,hc,fun j v hj=>by rw [Nat.add_assoc]; exact ha.cell (hg j v hj)⟩
end

section
variable {P:Program} {n:Nat} {fr:Fr} {dst:Option Tmp} {ty:TypeId} {pos:String} {aft:Array Edge} {g:Option (Nat × Bool)} {S:As} {w0:World} {G:List Ch}

theorem run_loadVar1 {t:TypeId} {w:World} {a:Addr} {v:Value} (ht:tySz P t = some (1,false)) (h:w.cell? a = some v):(loadVar t a).run P w = .ok v w:=by
  simp [loadVar,run_isAgg_of ht,h]
theorem run_loadVarA {t sz:Nat} {w:World} {b o:Nat} {cs:List Value} (ht:tySz P t = some (sz,true)) (hl:cs.length = sz) (h:∀ j v,cs[j]? = some v→w.cell? ⟨b,o + j,none⟩ = some v) :
    (loadVar t ⟨b,o,none⟩).run P w = .ok (.agg cs.toArray) w:=by
  subst hl
  have:=run_loadCells_list (P:=P) w ⟨b,o,none⟩ cs (fun j v hj=>by rw [add_lit]; exact h j v hj)
  simp [loadVar,run_isAgg_of ht,run_sizeOf_of ht,this]

theorem Qt.ld {t:TypeId} {x:Operand} {b o:Nat} {v:Value} (ht:tySz P t = some (1,false)) (hx:ev fr x = some (.pointer (some ⟨b,o,none⟩))) (h:∀ w,S w→w.cell? ⟨b,o,none⟩ = some v) :
    Qt P n ⟨dst,.load t x,ty,pos,aft,g⟩ fr S v:=fun a w k s=>by
  simp [execOp,k.ev hx,Instr.loadAt,Instr.sureAddr,run_loadVar1 ht (h w s),quietRes,Ext.refl]
theorem Qt.ldA {t sz:TypeId} {x:Operand} {b o:Nat} {cs:List Value} (ht:tySz P t = some (sz,true)) (hx:ev fr x = some (.pointer (some ⟨b,o,none⟩))) (hl:cs.length = sz) (h:Rc S b o cs) :
    Qt P n ⟨dst,.load t x,ty,pos,aft,g⟩ fr S (.agg cs.toArray):=fun a w k s=>by
  simp [execOp,k.ev hx,Instr.loadAt,Instr.sureAddr,run_loadVarA ht hl (h w s),quietRes,Ext.refl]
theorem Qt.ldB (k:Nat) {t e:TypeId} {x:Operand} {b o:Nat} {cs:List Value} {v:Value} (ht:tySz P t = some (1,false)) (hx:ev fr x = some (.pointer (some ⟨b,o,none⟩))) (hk:G[k]? = some (blk b cs e)) (hv:cs[o]? = some v) :
    Qt P n ⟨dst,.load t x,ty,pos,aft,g⟩ fr (Sat w0 G) v:=Qt.ld ht hx fun w s=>by
  simp [World.cell?,(s.getBlk hk).1,hv]
theorem Qt.ldBA (k:Nat) {t sz e:TypeId} {x:Operand} {b o:Nat} {cs us:List Value} (ht:tySz P t = some (sz,true)) (hx:ev fr x = some (.pointer (some ⟨b,o,none⟩))) (hk:G[k]? = some (blk b cs e)) (hu:(cs.drop o).take sz = us) (hl:us.length = sz) :
    Qt P n ⟨dst,.load t x,ty,pos,aft,g⟩ fr (Sat w0 G) (.agg us.toArray):=Qt.ldA ht hx hl fun w s j v hj=>by
  subst hu
  rw [List.getElem?_take] at hj
  split at hj
  · rw [List.getElem?_drop] at hj
    simp [World.cell?,(s.getBlk hk).1,hj]
  · cases hj

theorem Sat.newBlk {w:World} (s:Sat w0 G w) {w':World} (hw:w'.heap = w.heap) (he:Ext w w') (cs:List Value) (e:TypeId):Sat w0 (G ++ [blk w.heap.size cs e]) (w'.alloc (.cells cs.toArray e)):=by
  refine s.new (he.trans (Ext.alloc w' _)) _ (fun b=>if b = w.heap.size then some (.cells cs.toArray e) else none) (by simp [blk]) (fun b o hb=>?_) (fun b o hb=>?_)
  · dsimp only at hb
    split at hb
    · rename_i hb'; subst hb'; cases hb
      show (w'.heap.push _)[w.heap.size]? = _
      rw [← hw]; simp
    · cases hb
  · split at hb
    · omega
    · cases hb
theorem Sd.box {t:TypeId} {x:Operand} {v:Value} {cs:List Value} (hx:ev fr x = some v) (hc:v.cells.toList = cs) :
    Sd P n ⟨dst,.box t x,ty,pos,aft,g⟩ fr (Sat w0 G) (fun b:Nat=>.pointer (some ⟨b,0,none⟩)) (fun b=>Sat w0 (G ++ [blk b cs t])):=fun a w k s=>by
  subst hc
  refine ?_
  have:(execOp a.eval ⟨dst,.box t x,ty,pos,aft,g⟩).run P w = .ok (.value (.pointer (some ⟨w.heap.size,0,none⟩))) (w.alloc (.cells v.cells t)):=by
    simp [execOp,k.ev hx,Instr.box,newVar,newRow]
  rw [this]
  exact ⟨w.heap.size,rfl,by simpa using s.newBlk rfl (Ext.refl w) v.cells.toList t⟩
theorem Sd.alloc {t:TypeId} {z:Value} {cs:List Value} (hz:zeroOf P t = some z) (hc:z.cells.toList = cs) :
    Sd P n ⟨dst,.alloc t,ty,pos,aft,g⟩ fr (Sat w0 G) (fun b:Nat=>.pointer (some ⟨b,0,none⟩)) (fun b=>Sat w0 (G ++ [blk b cs t])):=fun a w k s=>by
  subst hc
  obtain ⟨i,hi,hz'⟩:=Option.bind_eq_some_iff.1 hz
  have:(execOp a.eval ⟨dst,.alloc t,ty,pos,aft,g⟩).run P w = .ok (.value (.pointer (some ⟨w.heap.size,0,none⟩))) (w.alloc (.cells z.cells t)):=by
    simp [execOp,Instr.alloc,zeroValue,typeInfo,hi,hz',newVar,newRow]
  rw [this]
  exact ⟨w.heap.size,rfl,by simpa using s.newBlk rfl (Ext.refl w) z.cells.toList t⟩

theorem Sat.setBlk {w:World} (s:Sat w0 G w) {k b:Nat} {cs:List Value} {e:TypeId} (hk:G[k]? = some (blk b cs e)) (cs':List Value):Sat w0 (G.set k (blk b cs' e)) (w.setRow b cs'.toArray):=by
  refine s.turn k hk _ rfl rfl rfl (by simp) fun p hp hl hb=>?_
  have hp':p b = some (.cells cs.toArray e (0,0)):=hp
  refine ⟨fun c hc hn=>setRow_other w b c _ (fun e'=>by rw [e',hp'] at hn; cases hn),fun c=>if c = b then some (.cells cs'.toArray e (0,0)) else p c,by simp [blk],fun c o hc=>?_⟩
  dsimp only at hc
  split at hc
  · rename_i hcb; subst hcb; cases hc
    exact ⟨.inl (by rw [hp']; simp),setRow_heap w c _ _ e (0,0) (hl _ _ hp')⟩
  · rename_i hcb
    exact ⟨.inl (by rw [hc]; simp),by rw [setRow_other w b c _ hcb]; exact hl _ _ hc⟩
theorem run_storeVar1 {t:TypeId} {w:World} {b o sz:Nat} {gg:Bool} {cs us:List Value} {e:TypeId} {v:Value} (ht:tySz P t = some (sz,gg)) (hb:w.heap[b]? = some (.cells cs.toArray e (0,0))) (hv:v.cells.toList = us) (hl:us.length = sz)
    (ho:o + sz ≤ cs.length) (h1:∀ u ∈ us,u.oneCell' = true) :
    (storeVar t ⟨b,o,none⟩ v).run P w = .ok () (w.setRow b (cs.take o ++ us ++ cs.drop (o + sz)).toArray):=by
  subst hv
  have hsz:v.cells.size = sz:=by rw [← hl]; simp
  have:=run_storeCells_at (P:=P) b o e v.cells.toList 0 cs.toArray w hb (by simp; omega) h1
  simp only [Nat.add_zero,Array.length_toList] at this
  simp [storeVar,run_sizeOf_of ht,hsz,this]
theorem Sd.stB (k:Nat) {t e:TypeId} {x y:Operand} {b o sz:Nat} {gg:Bool} {cs us:List Value} {v:Value} (ht:tySz P t = some (sz,gg)) (hx:ev fr x = some (.pointer (some ⟨b,o,none⟩))) (hy:ev fr y = some v) (hk:G[k]? = some (blk b cs e))
    (hv:v.cells.toList = us) (hl:us.length = sz) (ho:Nat.ble (o + sz) cs.length = true) (h1:us.all (·.oneCell') = true) {cs':List Value} (hc:cs.take o ++ us ++ cs.drop (o + sz) = cs') :
    Sd P n ⟨none,.store t x y,ty,pos,aft,g⟩ fr (Sat w0 G) (fun _:Unit=>undef) (fun _=>Sat w0 (G.set k (blk b cs' e))):=fun a w kn s=>by
  subst hc
  have hr:=run_storeVar1 (P:=P) ht (s.getBlk hk).1 hv hl (Nat.le_of_ble_eq_true ho) (fun u hu=>List.all_eq_true.1 h1 u hu)
  simp [execOp,kn.ev hx,kn.ev hy,Instr.storeAt,Instr.sureAddr,hr,solidRes]
  exact s.setBlk hk _
end
end Go.Vg
set_option linter.unusedSimpArgs false
set_option linter.unusedVariables false
namespace Go.Vg
open Go.RowKit (Below)
open Enc (R)

def evs (fr:Fr):List Operand→Option (List Value)
  | []=>some []
  | x :: r=>match ev fr x,evs fr r with
    | some v,some l=>some (v :: l)
    | _,_=>none
theorem Knows.evs {n:Nat} {fr:Fr} {a:Act} (k:Knows n fr a):∀ {xs:List Operand} {vs:List Value},Vg.evs fr xs = some vs→xs.map a.eval = vs
  | [],vs,h=>by simp [Vg.evs] at h; simp [h]
  | x :: r,vs,h=>by
    unfold Vg.evs at h
    split at h
    · rename_i v l hv hl
      cases h
      simp [k.ev hv,k.evs hl]
    · cases h

def Ent (P:Program) (f:FuncId):Prop:=∃ fn c,P.funcs[f]? = some fn∧(fn.name == "runtime.NumGoroutine") = false∧fn.body = some c

section
variable {P:Program} {n:Nat} {fr:Fr} {dst:Option Tmp} {ty:TypeId} {pos:String} {aft:Array Edge} {g:Option (Nat × Bool)} {S:As} {w0:World} {G:List Ch}
theorem run_enter {f:FuncId} {xs:List Operand} {ts:Array TypeId} {vs:List Value} (he:Ent P f) (hx:evs fr xs = some vs) {a:Act} (k:Knows n fr a) (w:World) :
    (execOp a.eval ⟨dst,.call { callee:=.value (.func f),args:=xs.toArray,argTypes:=ts },ty,pos,aft,g⟩).run P w = .ok (.enter f vs.toArray) w:=by
  obtain ⟨fn,c,h1,h2,h3⟩:=he
  have h2':¬ fn.name = "runtime.NumGoroutine":=by simpa using h2
  have:=k.evs hx
  simp [execOp,resolve,Act.eval,Deferred.ofValue,invoke,callFunc,h1,h2',h3,this]
theorem Sd.call {f:FuncId} {xs:List Operand} {ts:Array TypeId} {vs:List Value} (he:Ent P f) (hx:evs fr xs = some vs) {ι:Type} {val:ι→Value} {S':ι→As}
    (hc:∀ w,S w→Calls P f vs.toArray w (fun e w'=>∃ i,e = .returned (val i)∧S' i w')) :
    Sd P n ⟨dst,.call { callee:=.value (.func f),args:=xs.toArray,argTypes:=ts },ty,pos,aft,g⟩ fr S val S':=fun a w k s=>by
  rw [run_enter he hx k]
  exact hc w s
theorem Qt.call {f:FuncId} {xs:List Operand} {ts:Array TypeId} {vs:List Value} (he:Ent P f) (hx:evs fr xs = some vs) {v:Value}
    (hc:∀ w,S w→Calls P f vs.toArray w (fun e w'=>e = .returned v∧Ext w w')) :
    Qt P n ⟨dst,.call { callee:=.value (.func f),args:=xs.toArray,argTypes:=ts },ty,pos,aft,g⟩ fr S v:=fun a w k s=>by
  rw [run_enter he hx k]
  exact ⟨Ext.refl w,hc w s⟩
theorem Sd.callN {f:FuncId} {xs:List Operand} {ts:Array TypeId} {vs:List Value} (he:Ent P f) (hx:evs fr xs = some vs) {ι:Type} {val:ι→Value} {D:ι→List Ch}
    (hc:∀ w,Sat w0 G w→Calls P f vs.toArray w (fun e w'=>∃ i,e = .returned (val i)∧Sat w (D i) w')) :
    Sd P n ⟨dst,.call { callee:=.value (.func f),args:=xs.toArray,argTypes:=ts },ty,pos,aft,g⟩ fr (Sat w0 G) val (fun i=>Sat w0 (G ++ D i)) :=
  Sd.call he hx fun w s=>(hc w s).mono fun e w' ⟨i,h1,h2⟩=>⟨i,h1,s.join h2⟩
def restOf (G:List Ch) (k:Nat):Ch:=fun h=>∃ own:Nat→Nat,∀ i D,i ≠ k→G[i]? = some D→∃ p:Hp,D p∧∀ b o,p b = some o→own b = i∧h b = some o
theorem Sat.focus {w:World} (s:Sat w0 G w) {k:Nat} {C:Ch} (hk:G[k]? = some C):Sat w0 [C,restOf G k] w:=by
  obtain ⟨e,own,h2⟩:=s
  refine ⟨e,fun b=>if own b = k then 0 else 1,fun i D hi=>?_⟩
  match i,hi with
  | 0,hi =>
    simp at hi; subst hi
    obtain ⟨p,hp,hb⟩:=h2 k _ hk
    exact ⟨p,hp,fun b o hbo=>by obtain ⟨a1,a2,a3⟩:=hb b o hbo; exact ⟨a1,by simp [a2],a3⟩⟩
  | 1,hi =>
    simp at hi; subst hi
    refine ⟨fun b=>if own b = k ∨ b < w0.heap.size then none else w.heap[b]?,⟨own,fun i D hik hi=>?_⟩,fun b o hbo=>?_⟩
    · obtain ⟨p,hp,hb⟩:=h2 i D hi
      exact ⟨p,hp,fun b o hbo=>by
        obtain ⟨a1,a2,a3⟩:=hb b o hbo
        refine ⟨a2,?_⟩
        show (if own b = k ∨ b < w0.heap.size then none else w.heap[b]?) = some o
        rw [if_neg (by rintro (h | h) <;> omega)]; exact a3⟩
    · dsimp only at hbo
      split at hbo
      · cases hbo
      · rename_i hn
        have h1:¬ own b = k:=fun h=>hn (.inl h)
        exact ⟨Nat.le_of_not_lt fun h=>hn (.inr h),by simp [h1],hbo⟩
  | i + 2,hi=>simp at hi
theorem Sat.unfocus {w:World} {k:Nat} {C':Ch} {D:List Ch} (hk:k < G.length) (s:Sat w0 ([C',restOf G k] ++ D) w):Sat w0 (G.set k C' ++ D) w:=by
  obtain ⟨e,own,h2⟩:=s
  obtain ⟨r,⟨own',hr⟩,hbr⟩:=h2 1 _ rfl
  refine ⟨e,fun b=>if own b = 0 then k else if own b = 1 then (if own' b = k then G.length + D.length else if own' b < G.length then own' b else G.length + D.length) else own b - 2 + G.length,fun j E hj=>?_⟩
  rw [List.getElem?_append] at hj
  split at hj
  · rename_i hjl
    simp only [List.length_set] at hjl
    by_cases hjk:k = j
    · subst hjk
      rw [List.getElem?_set_self hk] at hj
      have:=(Option.some.inj hj).symm; subst this
      obtain ⟨p,hp,hb⟩:=h2 0 _ rfl
      exact ⟨p,hp,fun b o hbo=>by obtain ⟨a1,a2,a3⟩:=hb b o hbo; exact ⟨a1,by simp [a2],a3⟩⟩
    · rw [List.getElem?_set_ne hjk] at hj
      obtain ⟨p,hp,hb⟩:=hr j E (fun e=>hjk e.symm) hj
      refine ⟨p,hp,fun b o hbo=>?_⟩
      obtain ⟨a1,a2⟩:=hb b o hbo
      obtain ⟨c1,c2,c3⟩:=hbr b o a2
      refine ⟨c1,?_,c3⟩
      show (if own b = 0 then k else if own b = 1 then (if own' b = k then G.length + D.length else if own' b < G.length then own' b else G.length + D.length) else own b - 2 + G.length) = j
      rw [c2,if_neg (by omega),if_pos rfl,a1,if_neg (fun e=>hjk e.symm),if_pos hjl]
  · rename_i hjl
    simp only [List.length_set] at hjl hj
    obtain ⟨p,hp,hb⟩:=h2 (j - G.length + 2) E (by
      show (C' :: restOf G k :: D)[j - G.length + 2]? = some E
      simpa using hj)
    refine ⟨p,hp,fun b o hbo=>?_⟩
    obtain ⟨c1,c2,c3⟩:=hb b o hbo
    refine ⟨c1,?_,c3⟩
    show (if own b = 0 then k else if own b = 1 then (if own' b = k then G.length + D.length else if own' b < G.length then own' b else G.length + D.length) else own b - 2 + G.length) = j
    rw [c2,if_neg (by omega),if_neg (by omega)]; omega
def star (A B:Ch):Ch:=fun h=>∃ p q:Hp,A p∧B q∧(∀ b,p b = none ∨ q b = none)∧p.le h∧q.le h
def exch {ι:Type} (C:ι→Ch):Ch:=fun h=>∃ i,C i h
theorem Sat.unstar {w:World} {A B:Ch} (s:Sat w0 (star A B :: G) w):Sat w0 (A :: B :: G) w:=by
  obtain ⟨e,own,h2⟩:=s
  obtain ⟨r,⟨p,q,hp,hq,hd,h3,h4⟩,hbr⟩:=h2 0 _ rfl
  classical
  refine ⟨e,fun b=>if own b = 0 then (if p b = none then 1 else 0) else own b + 1,fun j E hj=>?_⟩
  match j,hj with
  | 0,hj =>
    simp at hj; subst hj
    exact ⟨p,hp,fun b o hbo=>by obtain ⟨a1,a2,a3⟩:=hbr b o (h3 b o hbo); exact ⟨a1,by simp [a2,hbo],a3⟩⟩
  | 1,hj =>
    simp at hj; subst hj
    exact ⟨q,hq,fun b o hbo=>by
      obtain ⟨a1,a2,a3⟩:=hbr b o (h4 b o hbo)
      have hpn:p b = none:=(hd b).resolve_right (by rw [hbo]; simp)
      exact ⟨a1,by simp [a2,hpn],a3⟩⟩
  | j + 2,hj =>
    obtain ⟨u,hu,hb⟩:=h2 (j + 1) E (by simpa using hj)
    exact ⟨u,hu,fun b o hbo=>by obtain ⟨a1,a2,a3⟩:=hb b o hbo; exact ⟨a1,by simp [a2],a3⟩⟩
theorem Sat.toStar {w:World} {A B:Ch} (s:Sat w0 (A :: B :: G) w):Sat w0 (star A B :: G) w :=
  s.merge _ fun p q r hp hq h1 h2 h3=>⟨p,q,hp,hq,h3,h1,h2⟩
theorem Sat.toEx {w:World} {ι:Type} {C:ι→Ch} (i:ι) (s:Sat w0 (C i :: G) w):Sat w0 (exch C :: G) w:=by
  have:=s.weaken 0 rfl (exch C) fun p hp=>⟨i,hp⟩
  simpa using this

def frameOf:Nat→List Value→Fr
  | _,[]=>[]
  | i,v :: r=>(i,v) :: frameOf (i + 1) r
theorem look_frameOf:∀ (vs:List Value) (k i:Nat) (v:Value),look (frameOf k vs) i = some v→k ≤ i∧vs[i - k]? = some v
  | [],k,i,v,h=>by simp [frameOf,look] at h
  | u :: r,k,i,v,h=>by
    rw [frameOf,look_cons] at h
    split at h
    · rename_i e; subst e; cases h; simp
    · rename_i e
      obtain ⟨h1,h2⟩:=look_frameOf r (k + 1) i v h
      exact ⟨by omega,by rw [show i - k = (i - (k + 1)) + 1 by omega]; simpa using h2⟩
theorem T.enter {f:FuncId} {fn:Func} {c:Code} {args:List Value} {w:World} {R:Ending→World→Prop} {S:As} (hf:P.funcs[f]? = some fn) (hb:fn.body = some c) (hn:Nat.ble args.length fn.ntmps = true) (s:S w)
    (h:T P fn.ntmps c (frameOf 0 args) S (bodyPost P fn R)):Calls P f args.toArray w R:=by
  refine calls_of_wp hf hb (h _ w ⟨?_,rfl,fun i v hi=>?_⟩ s)
  · have:args.length ≤ fn.ntmps:=by simpa using hn
    simp; omega
  · obtain ⟨_,h2⟩:=look_frameOf args 0 i v hi
    simp only [Nat.sub_zero] at h2
    have hlt:=(List.getElem?_eq_some_iff.1 h2).1
    rw [Array.getElem?_append_left (by simpa using hlt)]
    simpa using h2
theorem Cont.ret0 {fn:Func} {R:Ending→World→Prop} (hr:fn.results = #[]) (h:∀ w,S w→R (.returned (.tuple #[])) w):Cont n (bodyPost P fn R .ret) fr S:=fun a w k s =>
  bodyPost_ret (results_none hr _ _ _) k.defers (h w s)
theorem Cont.end0 {fn:Func} {R:Ending→World→Prop} (hr:fn.results = #[]) (h:∀ w,S w→R (.returned (.tuple #[])) w):Cont n (bodyPost P fn R .normal) fr S:=fun a w k s =>
  bodyPost_end (results_none hr _ _ _) k.defers (h w s)
theorem Knows.getD {a:Act} (k:Knows n fr a) {t:Nat} {v:Value} (h:look fr t = some v):a.tmps.getD t undef = v:=by
  have:=k.get t v h; simp [Array.getD_eq_getD_getElem?,this]
theorem Cont.ret1 {fn:Func} {R:Ending→World→Prop} {t:Nat} {v:Value} (hr:fn.results = #[.tmp t]) (hv:look fr t = some v) (h:∀ w,S w→R (.returned v) w):Cont n (bodyPost P fn R .ret) fr S:=fun a w k s =>
  bodyPost_ret (by rw [results_tmp hr,k.getD hv]) k.defers (h w s)
theorem Cont.ret2 {fn:Func} {R:Ending→World→Prop} {t t':Nat} {v v':Value} (hr:fn.results = #[.tmp t,.tmp t']) (hv:look fr t = some v) (hv':look fr t' = some v') (h:∀ w,S w→R (.returned (.tuple #[v,v'])) w):Cont n (bodyPost P fn R .ret) fr S:=fun a w k s =>
  bodyPost_ret (by rw [results_tmp2 hr,k.getD hv,k.getD hv']) k.defers (h w s)
theorem Cont.ret3 {fn:Func} {R:Ending→World→Prop} {t t' t'':Nat} {v v' v'':Value} (hr:fn.results = #[.tmp t,.tmp t',.tmp t'']) (hv:look fr t = some v) (hv':look fr t' = some v') (hv'':look fr t'' = some v'') (h:∀ w,S w→R (.returned (.tuple #[v,v',v''])) w):Cont n (bodyPost P fn R .ret) fr S:=fun a w k s =>
  bodyPost_ret (by simp [results,hr,k.getD hv,k.getD hv',k.getD hv'',← Array.getD_eq_getD_getElem?]) k.defers (h w s)
theorem T.ex {c:Code} {Q:Po} {ι:Type} {S':ι→As} (hp:∀ w,S w→∃ i,S' i w) (h:∀ i,T P n c fr (S' i) Q):T P n c fr S Q:=fun a w k s=>let ⟨i,s'⟩:=hp w s; h i a w k s'
theorem RS.ex {ops:Array Oper} {Q:Po} {l:List Oper} {ι:Type} {S':ι→As} (hp:∀ w,S w→∃ i,S' i w) (h:∀ i,RS P n ops Q l fr (S' i)):RS P n ops Q l fr S:=fun a w k s=>let ⟨i,s'⟩:=hp w s; h i a w k s'
theorem RS.conseq {ops:Array Oper} {Q:Po} {l:List Oper} {fr':Fr} {S':As} (h:RS P n ops Q l fr' S') (hf:Sub fr fr') (hs:∀ w,S w→S' w):RS P n ops Q l fr S :=
  fun a w k s=>h a w (k.sub hf) (hs w s)

def rowAnd {α:Type} [Enc α] (B:Hp) (e:TypeId) (v:Value) (xs ys:List α) (news:List Value):Ch:=fun h =>
  (v = .slice none 0 0∧xs = []∧RF (h.over B) ys news) ∨
  ∃ g cap cs sp,v = .slice (some ⟨g,0,none⟩) xs.length cap∧h g = some (.cells (cs ++ sp).toArray e (0,0))∧xs.length ≤ cap∧cap ≤ maxLen∧(cs ++ sp).length = cap * Enc.sz α∧RF ((h.off g).over B) xs cs∧RF ((h.off g).over B) ys news
theorem Hp.over_mono' {p q B:Hp} (h:p.le q) (hB:∀ b o,B b = some o→q b = none):(p.over B).le (q.over B):=by
  intro b o e
  unfold Hp.over at e ⊢
  split at e
  · rename_i o' e'; cases e; rw [h b _ e']
  · rw [hB b o e]; exact e
theorem Sat.append {α:Type} [Enc α] {w:World} (s:Sat w0 G w) {k:Nat} {C:Ch} (hk:G[k]? = some C) {B:Hp} {t e ty:TypeId} {by':Nat} {z:Value} {v:Value} {xs ys:List α} {news:List Value}
    (ht:slTy P t = some (e,Enc.sz α,by')) (hz:zeroOf P e = some z) (hzs:z.cells.size = Enc.sz α)
    (hB:∀ b o,B b = some o→b < w0.heap.size) (hC:∀ p,C p→rowAnd B e v xs ys news p) {q:Addr} {m c:Nat} (hm:ys.length = m) (hnews:∀ j u,news[j]? = some u→w.cell? (q.add j) = some u)
    (hbytes:(xs.length + m) * by' ≤ 140737488355328) (h63:xs.length + m ≤ maxLen) :
    ∃ v' w',(Builtin.append_ #[t,t] ty #[v,.slice (some q) m c]).run P w = .ok v' w'∧Sat w0 (G.set k (row B e v' (xs ++ ys))) w':=by
  obtain ⟨hu,i,hi,hsz',hby⟩:=slTy_spec ht
  subst hby
  obtain ⟨i',hi',hz'⟩:=Option.bind_eq_some_iff.1 hz
  rw [hi] at hi'; cases hi'
  have h63':((xs.length + m:Nat):Int) ≤ 9223372036854775807:=by unfold maxLen at h63; omega
  subst hm
  have hw0:=s.ext.size
  have fresh:∀ (A:Hp→Hp) (cs:List Value) (cap:Nat),(∀ p,(A p).le p)→(∀ p,C p→p.le (hpOf w)→RF ((A p).over B) xs cs∧RF ((A p).over B) ys news)→xs.length + ys.length ≤ cap→cap ≤ maxLen →
      Sat w0 (G.set k (row B e (.slice (some ⟨w.heap.size,0,none⟩) (xs ++ ys).length cap) (xs ++ ys))) (w.drew.alloc (.cells (cs.toArray ++ news.toArray ++ Builtin.zeroCells z.cells (cap - (xs.length + ys.length))) e)):=by
    intro A cs cap hA hcs hcap hcm
    refine s.turn k hk _ rfl rfl rfl (by simp) fun p hp hl hb=>?_
    obtain ⟨hx,hy⟩:=hcs p hp hl
    refine ⟨fun b hb' hn=>(Below.heap_alloc w.drew _ b (by simpa using hb')),fun b=>if b = w.heap.size then some (.cells (cs.toArray ++ news.toArray ++ Builtin.zeroCells z.cells (cap - (xs.length + ys.length))) e (0,0)) else p b,.inr ?_,fun b o hbo=>?_⟩
    · refine ⟨w.heap.size,cap,cs ++ news,(Builtin.zeroCells z.cells (cap - (xs.length + ys.length))).toList,rfl,?_,by simpa using hcap,hcm,?_,?_⟩
      · simp
      · simp only [List.length_append,hx.length,hy.length,Array.length_toList,size_zeroCells,hzs,← Nat.add_mul]
        congr 1
        omega
      · have hmono:((A p).over B).le (Hp.over (Hp.off (fun b=>if b = w.heap.size then some (.cells (cs.toArray ++ news.toArray ++ Builtin.zeroCells z.cells (cap - (xs.length + ys.length))) e (0,0)) else p b) w.heap.size) B):=by
          refine Hp.over_mono' (fun b o hbo=>?_) (fun b o hbo=>?_)
          · have hpb:=hA p b o hbo
            have hlt:=lt_of_hp (hl b o hpb)
            unfold Hp.off
            rw [if_neg (by omega)]
            show (if b = w.heap.size then _ else p b) = _
            rw [if_neg (by omega)]; exact hpb
          · have hlt:=hB b o hbo
            unfold Hp.off
            rw [if_neg (by omega)]
            show (if b = w.heap.size then _ else p b) = _
            rw [if_neg (by omega)]
            cases hpb:p b with
            | none=>rfl
            | some o'=>have:=hb b o' hpb; omega
        exact RF.append (hx.mono hmono) (hy.mono hmono)
    · dsimp only at hbo
      split at hbo
      · rename_i hbw
        subst hbw; cases hbo
        exact ⟨.inr (Nat.le_refl _),heap_alloc_new w.drew _⟩
      · exact ⟨.inl (by rw [hbo]; simp),by rw [Below.heap_alloc w.drew _ b (by simpa using lt_of_hp (hl b o hbo))]; exact hl b o hbo⟩
  obtain ⟨p0,hp0,hl0,hb0⟩:=s.get k hk
  rcases hC p0 hp0 with ⟨rfl,rfl,hy⟩ | ⟨g,cap,cs,sp,rfl,hgp,hlc,hcm,hlen,hx,hy⟩
  · have hnl:news.length = ys.length * i.size:=by rw [hy.length,hsz']
    by_cases hm:ys.length = 0
    · have hys:ys = []:=List.eq_nil_of_length_eq_zero hm
      subst hys
      have hn:news = []:=hy
      subst hn
      refine ⟨.slice none 0 0,w,?_,?_⟩
      · simp [Builtin.append_,run_underlying hu,sizeOf,typeInfo,hi,Builtin.lenOf,Builtin.firstCells,loadCells,loadCellsFrom]
      · exact s.weaken k hk _ fun p hp=>.inl ⟨rfl,rfl⟩
    · have hr:=run_append_nil (P:=P) w t ty e i z hu hi hz' q ys.length c news hnl hnews (by omega) (by simpa using h63') (by have hb:=hbytes; simp only [List.length_nil,Nat.zero_add] at hb; omega)
      have hge:=grownCap_ge w ys.length 0 e
      have hle:=grownCap_le_maxLen w ys.length 0 e (by simpa using h63)
      have:=fresh (fun p=>p) [] (grownCap w ys.length 0 e) (fun p=>Hp.le_refl p) (fun p hp hl=>?_) (by simpa using hge) hle
      · simp only [List.nil_append,List.length_nil,Nat.zero_add,Array.empty_append] at this
        exact ⟨_,_,hr,by simpa using this⟩
      · refine ⟨rfl,?_⟩
        rcases hC p hp with ⟨_,_,hy'⟩ | ⟨g,cap,cs,sp,hv,_⟩
        · exact hy'
        · cases hv
  · have hnl:news.length = ys.length * i.size:=by rw [hy.length,hsz']
    have hwg:=hl0 _ _ hgp
    have hcsl:=hx.length
    by_cases hroom:xs.length + ys.length ≤ cap
    · have hfit:xs.length * i.size + news.length ≤ (cs ++ sp).toArray.size:=by
        simp only [List.size_toArray,hlen,hnl,hsz',← Nat.add_mul]
        exact Nat.mul_le_mul_right _ hroom
      have hr:=run_append_room (P:=P) w t ty e i hu hi g xs.length cap (cs ++ sp).toArray hwg q ys.length c news hnl hnews hy.one hroom hfit
      refine ⟨_,_,hr,?_⟩
      have harr:(cs ++ sp).toArray.toList.take (xs.length * i.size) ++ news ++ (cs ++ sp).toArray.toList.drop (xs.length * i.size + news.length) = (cs ++ news) ++ sp.drop news.length:=by
        rw [hsz',← hcsl]
        simp [List.drop_append]
      rw [harr]
      refine s.turn k hk _ rfl rfl rfl (by simp) fun p hp hl hb=>?_
      rcases hC p hp with ⟨hv,_,_⟩ | ⟨g',cap',cs',sp',hv,hgp',hlc',hcm',hlen',hx',hy'⟩
      · cases hv
      · simp only [Value.slice.injEq,Option.some.injEq,Addr.mk.injEq,and_true,true_and] at hv
        obtain ⟨rfl,rfl⟩:=hv
        have he:cs' = cs:=by
          have h1:=hl _ _ hgp'
          have h2:w.heap[g]? = some (.cells (cs ++ sp).toArray e (0,0)):=hwg
          have h3:w.heap[g]? = some (.cells (cs' ++ sp').toArray e (0,0)):=h1
          rw [h2] at h3
          have h4:cs ++ sp = cs' ++ sp':=by simpa using h3
          have h5:=congrArg (List.take cs.length) h4
          rw [List.take_left,hcsl,← hx'.length,List.take_left] at h5
          exact h5.symm
        subst he
        refine ⟨fun b hb' hn=>setRow_other w g b _ (fun e'=>by rw [e',hgp'] at hn; cases hn),fun b=>if b = g then some (.cells ((cs' ++ news) ++ sp.drop news.length).toArray e (0,0)) else p b,.inr ?_,fun b o hbo=>?_⟩
        · refine ⟨g,cap,cs' ++ news,sp.drop news.length,by simp,by simp,by simpa using hroom,hcm,?_,?_⟩
          · have h1:=hlen
            simp only [List.length_append,List.length_drop] at h1 ⊢
            have h2:cs'.length + news.length ≤ cap * Enc.sz α:=by rw [hcsl,hnl,hsz',← Nat.add_mul]; exact Nat.mul_le_mul_right _ hroom
            omega
          · have hoff:Hp.off (fun b=>if b = g then some (.cells ((cs' ++ news) ++ sp.drop news.length).toArray e (0,0)) else p b) g = p.off g:=by
              funext b; unfold Hp.off; split <;> simp_all
            rw [hoff]
            exact RF.append hx' hy'
        · dsimp only at hbo
          split at hbo
          · rename_i hbg; subst hbg; cases hbo
            exact ⟨.inl (by rw [hgp']; simp),setRow_heap w b _ _ e (0,0) hwg⟩
          · rename_i hbg
            exact ⟨.inl (by rw [hbo]; simp),by rw [setRow_other w g b _ hbg]; exact hl b o hbo⟩
    · have holds:∀ j u,cs[j]? = some u→w.cell? ((⟨g,0,none⟩:Addr).add j) = some u:=fun j u hj=>by
        have hw:w.heap[g]? = some (.cells (cs ++ sp).toArray e (0,0)):=hwg
        rw [add_lit]
        simp [World.cell?,hw,List.getElem?_append_left (List.getElem?_eq_some_iff.1 hj).1,hj]
      have hr:=run_append_grow (P:=P) w t ty e i z hu hi hz' ⟨g,0,none⟩ xs.length cap cs (by rw [hcsl,hsz']) holds q ys.length c news hnl hnews (by omega) h63' (growslice_fits (by omega) hbytes)
      have hge:=grownCap_ge w (xs.length + ys.length) cap e
      have hle:=grownCap_le_maxLen w (xs.length + ys.length) cap e h63
      have:=fresh (fun p=>p.off g) cs (grownCap w (xs.length + ys.length) cap e) (fun p=>Hp.off_le p g) (fun p hp hl=>?_) hge hle
      · exact ⟨_,_,hr,by simpa using this⟩
      · rcases hC p hp with ⟨hv,_,_⟩ | ⟨g',cap',cs',sp',hv,hgp',hlc',hcm',hlen',hx',hy'⟩
        · cases hv
        · simp only [Value.slice.injEq,Option.some.injEq,Addr.mk.injEq,and_true,true_and] at hv
          obtain ⟨rfl,rfl⟩:=hv
          have he:cs' = cs:=by
            have h1:=hl _ _ hgp'
            have h2:w.heap[g]? = some (.cells (cs ++ sp).toArray e (0,0)):=hwg
            have h3:w.heap[g]? = some (.cells (cs' ++ sp').toArray e (0,0)):=h1
            rw [h2] at h3
            have h4:cs ++ sp = cs' ++ sp':=by simpa using h3
            have h5:=congrArg (List.take cs.length) h4
            rw [List.take_left,hcsl,← hx'.length,List.take_left] at h5
            exact h5.symm
          subst he
          exact ⟨hx',hy'⟩

theorem nilH_lt (k:Nat):∀ b o,nilH b = some o→b < k:=fun _ _ h=>by cases h
class Flat (α:Type) [Enc α]:Prop where
  any:∀ {h h':Hp} {x:α} {c:List Value},R h x c→R h' x c
theorem RF.any {α:Type} [Enc α] [Flat α] {h h':Hp}:∀ {xs:List α} {cs:List Value},RF h xs cs→RF h' xs cs
  | [],_,e=>e
  | _ :: _,_,⟨c,r,e,hx,hr⟩=>⟨c,r,e,Flat.any hx,RF.any hr⟩
instance:Flat Int:=⟨fun h=>h⟩
instance:Flat Bool:=⟨fun h=>h⟩
instance:Flat UInt8:=⟨fun h=>h⟩
instance:Flat UInt64:=⟨fun h=>h⟩
theorem rowAnd_flat {α:Type} [Enc α] [Flat α] {B:Hp} {e:TypeId} {v:Value} {xs ys:List α} {news:List Value} {h0:Hp} (hy:RF h0 ys news):∀ p,row B e v xs p→rowAnd B e v xs ys news p
  | p,.inl ⟨h1,h2⟩=>.inl ⟨h1,h2,hy.any⟩
  | p,.inr ⟨g,cap,cs,sp,h1,h2,h3,h4,h5,h6⟩=>.inr ⟨g,cap,cs,sp,h1,h2,h3,h4,h5,h6,hy.any⟩

theorem row_shape {α:Type} [Enc α] {B:Hp} {e:TypeId} {v:Value} {xs:List α} {p:Hp} (h:row B e v xs p):∃ q:Option Nat × Nat,v = .slice (q.1.map fun g=>⟨g,0,none⟩) xs.length q.2:=by
  rcases h with ⟨rfl,rfl⟩ | ⟨g,cap,cs,sp,rfl,_⟩
  · exact ⟨(none,0),rfl⟩
  · exact ⟨(some g,cap),rfl⟩
def rowV (q:Option Nat × Nat) (n:Nat):Value:=.slice (q.1.map fun g=>⟨g,0,none⟩) n q.2

theorem run_builtin_append {x y:Operand} {t:TypeId} {a:Act} {v u:Value} (k:Knows n fr a) (hx:ev fr x = some v) (hy:ev fr y = some u) {w w':World} {r:Value}
    (hr:(Builtin.append_ #[t,t] ty #[v,u]).run P w = .ok r w') :
    (execOp a.eval ⟨dst,.call { callee:=.builtin .append,args:=#[x,y],argTypes:=#[t,t] },ty,pos,aft,g⟩).run P w = .ok (.value r) w':=by
  simp [execOp,resolve,invoke,builtin,k.ev hx,k.ev hy,hr]

theorem Sd.app {α:Type} [Enc α] (k:Nat) {C:Ch} (hk:G[k]? = some C) {B:Hp} (hB:∀ b o,B b = some o→b < w0.heap.size) {x y:Operand} {t e:TypeId} {by':Nat} {z v:Value} {xs ys:List α} {news:List Value} {q:Addr} {m c:Nat}
    (ht:slTy P t = some (e,Enc.sz α,by')) (hz:zeroOf P e = some z) (hzs:z.cells.size = Enc.sz α) (hx:ev fr x = some v) (hy:ev fr y = some (.slice (some q) m c))
    (hC:∀ p,C p→rowAnd B e v xs ys news p) (hm:ys.length = m) (hnews:∀ w,Sat w0 G w→∀ j u,news[j]? = some u→w.cell? (q.add j) = some u) (hbytes:(xs.length + m) * by' ≤ 140737488355328) (h63:xs.length + m ≤ maxLen) :
    Sd P n ⟨dst,.call { callee:=.builtin .append,args:=#[x,y],argTypes:=#[t,t] },ty,pos,aft,g⟩ fr (Sat w0 G) (fun q=>rowV q (xs.length + m)) (fun q=>Sat w0 (G.set k (row B e (rowV q (xs.length + m)) (xs ++ ys)))):=fun a w kn s=>by
  obtain ⟨v',w',hr,hs⟩:=s.append (ty:=ty) hk ht hz hzs hB hC hm (hnews w s) hbytes h63 (c:=c)
  rw [run_builtin_append kn hx hy hr]
  have hkl:k < (G.set k (row B e v' (xs ++ ys))).length:=by simpa using (List.getElem?_eq_some_iff.1 hk).1
  obtain ⟨p,hp,_⟩:=hs.get k (List.getElem?_set_self (by simpa using hkl))
  obtain ⟨q',hq⟩:=row_shape hp
  simp only [List.length_append,hm] at hq
  exact ⟨q',hq,by show Sat w0 (G.set k (row B e (rowV q' (xs.length + m)) (xs ++ ys))) w'; rw [show rowV q' (xs.length + m) = v' from hq.symm]; exact hs⟩
theorem Sd.app1 {α:Type} [Enc α] [Flat α] (k k1:Nat) {B:Hp} {x y:Operand} {t e e':TypeId} {by':Nat} {z v:Value} {xs:List α} {y0:α} {news:List Value} {b c:Nat}
    (hk:G[k]? = some (row B e v xs)) (hk1:G[k1]? = some (blk b news e')) (hB:∀ b o,B b = some o→b < w0.heap.size)
    (ht:slTy P t = some (e,Enc.sz α,by')) (hz:zeroOf P e = some z) (hzs:z.cells.size = Enc.sz α) (hx:ev fr x = some v) (hy:ev fr y = some (.slice (some ⟨b,0,none⟩) 1 c))
    (hr:R nilH y0 news) (hbytes:(xs.length + 1) * by' ≤ 140737488355328) (h63:xs.length + 1 ≤ maxLen) :
    Sd P n ⟨dst,.call { callee:=.builtin .append,args:=#[x,y],argTypes:=#[t,t] },ty,pos,aft,g⟩ fr (Sat w0 G) (fun q=>rowV q (xs.length + 1)) (fun q=>Sat w0 (G.set k (row B e (rowV q (xs.length + 1)) (xs ++ [y0])))) :=
  Sd.app (ys:=[y0]) (news:=news) k hk hB ht hz hzs hx hy (rowAnd_flat (RF.single hr)) rfl (fun w s j u hj=>by
    rw [add_lit]; simp [World.cell?,(s.getBlk hk1).1,hj]) hbytes h63
def evp (fr:Fr):List (Nat × Operand)→Option (List (Nat × Value))
  | []=>some []
  | (i,x) :: r=>match ev fr x,evp fr r with
    | some v,some l=>some ((i,v) :: l)
    | _,_=>none
theorem Knows.evp {a:Act} (k:Knows n fr a):∀ {xs:List (Nat × Operand)} {vs:List (Nat × Value)},Vg.evp fr xs = some vs→xs.map (fun (i,x)=>(i,a.eval x)) = vs
  | [],vs,h=>by simp [Vg.evp] at h; simp [h]
  | (i,x) :: r,vs,h=>by
    unfold Vg.evp at h
    split at h
    · rename_i v l hv hl
      cases h
      simp only [List.map_cons,k.ev hv,List.cons.injEq,true_and]
      exact k.evp hl
    · cases h
def fillL (place:Nat→Option (Nat × Nat)):List Value→List (Nat × Value)→Option (List Value)
  | cells,[]=>some cells
  | cells,(i,v) :: rest=>match place i with
    | none=>none
    | some (off,size)=>bif Nat.beq v.cells.toList.length size && Nat.ble (off + v.cells.toList.length) cells.length then fillL place (cells.take off ++ v.cells.toList ++ cells.drop (off + v.cells.toList.length)) rest else none
theorem splice_fold (off:Nat):∀ (c:List Value) (k:Nat) (ar:Array Value),off + k + c.length ≤ ar.size →
    ((c.zipIdx k).foldl (fun (cs:Array Value) (x:Value × Nat)=>cs.setIfInBounds (off + x.2) x.1) ar).toList = ar.toList.take (off + k) ++ c ++ ar.toList.drop (off + k + c.length)
  | [],k,ar,_=>by simp
  | x :: c,k,ar,h=>by
    simp only [List.length_cons] at h
    rw [List.zipIdx_cons,List.foldl_cons]
    have:=splice_fold off c (k + 1) (ar.setIfInBounds (off + k) x) (by simp; omega)
    rw [this]
    simp only [Array.toList_setIfInBounds,List.length_cons]
    have hlt:off + k < ar.toList.length:=by simp; omega
    rw [show off + (k + 1) = off + k + 1 by omega,List.drop_set_of_lt (by omega)]
    have e:(ar.toList.set (off + k) x).take (off + k + 1) = ar.toList.take (off + k) ++ [x]:=by
      rw [List.take_succ_eq_append_getElem (by simpa using hlt),List.take_set_of_le (Nat.le_refl _)]
      simp
    rw [e,show off + k + 1 + c.length = off + k + (c.length + 1) by omega]
    simp
theorem fill_of {place:Nat→Option (Nat × Nat)}:∀ {ps:List (Nat × Value)} {cells r:List Value},fillL place cells ps = some r→Instr.fill place cells.toArray ps = some r.toArray
  | [],cells,r,h=>by simp [fillL] at h; simp [Instr.fill,h]
  | (i,v) :: rest,cells,r,h=>by
    unfold fillL at h
    unfold Instr.fill
    cases hp:place i with
    | none=>simp [hp] at h
    | some os =>
      obtain ⟨off,size⟩:=os
      simp only [hp] at h ⊢
      cases hb:(Nat.beq v.cells.toList.length size && Nat.ble (off + v.cells.toList.length) cells.length) with
      | false=>simp only [hb,cond_false,reduceCtorEq] at h
      | true =>
        simp only [hb,cond_true] at h
        simp only [Bool.and_eq_true] at hb
        have h1:v.cells.size = size:=by have:=Nat.eq_of_beq_eq_true hb.1; simpa using this
        have h2:off + v.cells.size ≤ cells.length:=by have:=Nat.le_of_ble_eq_true hb.2; simpa using this
        rw [if_neg (by simp [h1]; omega)]
        have e:(v.cells.zipIdx.foldl (fun cs (c,j)=>cs.setIfInBounds (off + j) c) cells.toArray) = (cells.take off ++ v.cells.toList ++ cells.drop (off + v.cells.toList.length)).toArray:=by
          apply Array.ext'
          rw [← Array.foldl_toList,Array.toList_zipIdx]
          have:=splice_fold off v.cells.toList 0 cells.toArray (by simpa using h2)
          simpa using this
        rw [e]
        exact fill_of h
def litCells (sz len:Nat) (z:Value) (ps:List (Nat × Value)):Option (List Value):=fillL (fun i=>some (i * sz,sz)) (List.replicate len z.cells.toList).flatten ps
theorem madeCells_flat (z:Array Value) (hz:0 < z.size) (n:Nat):(madeCells z (n * z.size)).toList = (List.replicate n z.toList).flatten:=by
  induction n with
  | zero=>simp [madeCells]
  | succ n ih =>
    rw [List.replicate_succ',List.flatten_concat,← ih]
    unfold madeCells
    rw [show (n + 1) * z.size = n * z.size + z.size by rw [Nat.add_mul]; omega]
    apply List.ext_getElem
    · simp
    · intro j h1 h2
      simp only [Array.toList_map,List.getElem_map,Array.getElem_toList,Array.getElem_range]
      by_cases hj:j < n * z.size
      · rw [List.getElem_append_left (by simpa using hj)]
        simp
      · rw [List.getElem_append_right (by simpa using hj)]
        have h3:j < n * z.size + z.size:=by simpa using h1
        have h4:j % z.size = j - n * z.size:=by
          rw [show j = (j - n * z.size) + n * z.size by omega,Nat.add_mul_mod_self_right,Nat.mod_eq_of_lt (by omega)]
          omega
        simp only [List.length_map,Array.length_toList,Array.size_range]
        rw [h4]
        simp only [Array.getElem_toList]
        rw [getElem!_pos z _ (by omega)]
theorem Sd.litS {t e:TypeId} {len sz by':Nat} {z:Value} {xs:List (Nat × Operand)} {vs:List (Nat × Value)} {cs:List Value} (ht:slTy P t = some (e,sz,by')) (hz:zeroOf P e = some z) (hl:Nat.ble (len * sz) 16777216 = true) (h0:Nat.blt 0 (len * sz) = true) (hzs:Nat.beq z.cells.size sz = true)
    (hx:evp fr xs = some vs) (hc:litCells sz len z vs = some cs) :
    Sd P n ⟨dst,.buildSlice t len xs.toArray,ty,pos,aft,g⟩ fr (Sat w0 G) (fun b:Nat=>.slice (some ⟨b,0,none⟩) len len) (fun b=>Sat w0 (G ++ [blk b cs e])):=fun a w k s=>by
  obtain ⟨hu,i,hi,hsz,_⟩:=slTy_spec ht
  obtain ⟨i',hi',hz'⟩:=Option.bind_eq_some_iff.1 hz
  rw [hi] at hi'; cases hi'
  have hl':¬ (16777216 < len * sz):=by have:len * sz ≤ 16777216:=Nat.le_of_ble_eq_true hl; omega
  have h0':¬ (len * sz = 0):=by
    have:1 ≤ len * sz:=by simpa [Nat.blt] using h0
    omega
  have hv:=k.evp hx
  have hm:(xs.toArray.map fun x=>match x with | (i,x)=>(i,a.eval x)).toList = vs:=by simp; exact hv
  have hzs':z.cells.size = sz:=Nat.eq_of_beq_eq_true hzs
  have hzp:0 < z.cells.size:=by
    rcases Nat.eq_zero_or_pos z.cells.size with h | h
    · rw [← hzs',h] at h0'; simp at h0'
    · exact h
  have har:Instr.fill (fun i=>some (i * sz,sz)) (madeCells z.cells (len * sz)) vs = some cs.toArray:=by
    have e:madeCells z.cells (len * sz) = (List.replicate len z.cells.toList).flatten.toArray:=by
      apply Array.ext'
      rw [← hzs',madeCells_flat z.cells hzp]
    rw [e]; exact fill_of hc
  unfold madeCells at har
  have:(execOp a.eval ⟨dst,.buildSlice t len xs.toArray,ty,pos,aft,g⟩).run P w = .ok (.value (.slice (some ⟨w.heap.size,0,none⟩) len len)) (w.alloc (.cells cs.toArray e)):=by
    have h2:(Instr.buildSlice t len (xs.toArray.map fun (i,x)=>(i,a.eval x))).run P w = .ok (.slice (some ⟨w.heap.size,0,none⟩) len len) (w.alloc (.cells cs.toArray e)):=by
      have h00:len = 0 ∨ sz = 0→False:=fun h=>h0' (by rcases h with h | h <;> simp [h])
      simp only [Instr.buildSlice,Sem.run_bind,run_underlying hu,Result.andThen_ok,run_sizeOf_info hi,hsz,Sem.run_ite,hm]
      rw [if_neg (by simpa using hl'),if_neg h0']
      simp [zeroValue,typeInfo,hi,hz',har,newRow]
    simp only [execOp,Sem.run_bind,h2,Result.andThen_ok,Sem.run_pure]
  rw [this]
  exact ⟨w.heap.size,rfl,s.newBlk rfl (Ext.refl w) cs e⟩

theorem Sat.newRow {α:Type} [Enc α] {w:World} (s:Sat w0 G w) {w':World} (hw:w'.heap = w.heap) (he:Ext w w') (B:Hp) (e:TypeId) (xs:List α) (cs:List Value) (cap:Nat) (sp:List Value) (hle:xs.length ≤ cap) (hm:cap ≤ maxLen) (hl:(cs ++ sp).length = cap * Enc.sz α) (hr:RF nilH xs cs) :
    Sat w0 (G ++ [row B e (.slice (some ⟨w.heap.size,0,none⟩) xs.length cap) xs]) (w'.alloc (.cells (cs ++ sp).toArray e)):=by
  have s1:=s.newBlk hw he (cs ++ sp) e
  have hlen:(G ++ [blk w.heap.size (cs ++ sp) e])[G.length]? = some (blk w.heap.size (cs ++ sp) e):=by simp
  have:=s1.weaken G.length hlen (row B e (.slice (some ⟨w.heap.size,0,none⟩) xs.length cap) xs) fun p hp=>.inr ⟨_,cap,cs,sp,rfl,hp,hle,hm,hl,hr.mono (nilH_le _)⟩
  simpa using this
theorem Sd.make {α:Type} [Enc α] {x y:Operand} {t e:TypeId} {by':Nat} {z:Value} {l:Int} {kl kc:IntKind} {B:Hp} (x0:α) (ht:slTy P t = some (e,Enc.sz α,by')) (hz:zeroOf P e = some z) (hr:R nilH x0 z.cells.toList) (hs:0 < Enc.sz α)
    (hx:ev fr x = some (.int kl l)) (hy:ev fr y = some (.int kc l)) (h0:0 ≤ l) (hb:(by':Int) * l ≤ 281474976710656) (h63:l ≤ 9223372036854775807) :
    Sd P n ⟨dst,.makeSlice t x y,ty,pos,aft,g⟩ fr (Sat w0 G) (fun b:Nat=>.slice (some ⟨b,0,none⟩) l.toNat l.toNat) (fun b=>Sat w0 (G ++ [row B e (.slice (some ⟨b,0,none⟩) l.toNat l.toNat) (List.replicate l.toNat x0)])):=fun a w k s=>by
  obtain ⟨hu,i,hi,hsz,rfl⟩:=slTy_spec ht
  obtain ⟨i',hi',hz'⟩:=Option.bind_eq_some_iff.1 hz
  rw [hi] at hi'; cases hi'
  have hr':=run_make (P:=P) w t e i z hu hi hz' kl kc l l h0 (Int.le_refl _) hb h63
  have hzl:z.cells.size = Enc.sz α:=by have:=Enc.len hr; simpa using this
  have:(execOp a.eval ⟨dst,.makeSlice t x y,ty,pos,aft,g⟩).run P w = .ok (.value (.slice (some ⟨w.heap.size,0,none⟩) l.toNat l.toNat)) (w.alloc (.cells (madeCells z.cells (l.toNat * i.size)) e)):=by
    simp only [execOp,k.ev hx,k.ev hy,Sem.run_bind,hr',Result.andThen_ok,Sem.run_pure]
  rw [this]
  refine ⟨w.heap.size,rfl,?_⟩
  have h1:=s.newRow rfl (Ext.refl w) B e (List.replicate l.toNat x0) (List.replicate l.toNat z.cells.toList).flatten l.toNat [] (by simp) (by unfold maxLen; omega) (by
    have:=(RF.replicate hr l.toNat).length; simp only [List.append_nil,this,List.length_replicate]) (RF.replicate hr l.toNat)
  simp only [List.length_replicate,List.append_nil] at h1
  have h2:madeCells z.cells (l.toNat * i.size) = (List.replicate l.toNat z.cells.toList).flatten.toArray:=by
    apply Array.ext'
    rw [hsz,← hzl,madeCells_flat z.cells (by omega)]
  rw [h2]; exact h1

theorem Qt.ldE {α:Type} [Enc α] {t:TypeId} {x:Operand} {xs:List α} {b o off len cap i j:Nat} {x0:α} {v:Value} (hR:Rd S xs [.slice (some ⟨b,o,none⟩) len cap]) (hx0:xs[i]? = some x0) (ht:tySz P t = some (1,false))
    (hx:ev fr x = some (.pointer (some ⟨b,off,none⟩))) (ho:off = o + i * Enc.sz α + j) (hv:∀ h c,R h x0 c→c[j]? = some v) :
    Qt P n ⟨dst,.load t x,ty,pos,aft,g⟩ fr S v:=Qt.ld ht hx fun w s=>by
  obtain ⟨c,hc,hg⟩:=hR.elem hx0 rfl s
  rw [ho]
  exact hg j v (hv _ c hc)
theorem Qt.ldEA {α:Type} [Enc α] {t sz:TypeId} {x:Operand} {xs:List α} {b o off len cap i:Nat} {x0:α} {cs:List Value} (hR:Rd S xs [.slice (some ⟨b,o,none⟩) len cap]) (hx0:xs[i]? = some x0) (ht:tySz P t = some (sz,true))
    (hx:ev fr x = some (.pointer (some ⟨b,off,none⟩))) (ho:off = o + i * Enc.sz α) (hl:cs.length = sz) (hv:∀ h c,R h x0 c→c = cs) :
    Qt P n ⟨dst,.load t x,ty,pos,aft,g⟩ fr S (.agg cs.toArray):=Qt.ldA ht hx hl fun w s j v hj=>by
  obtain ⟨c,hc,hg⟩:=hR.elem hx0 rfl s
  rw [ho]
  exact hg j v (by rw [hv _ c hc]; exact hj)
theorem Sd.stE {α:Type} [Enc α] (k:Nat) {t e:TypeId} {B:Hp} {x y:Operand} {xs:List α} {b off cap i j sz len:Nat} {gg:Bool} {x0 x1:α} {v:Value} {us:List Value} (hk:G[k]? = some (row B e (.slice (some ⟨b,0,none⟩) len cap) xs)) (hx0:xs[i]? = some x0) (ht:tySz P t = some (sz,gg))
    (hx:ev fr x = some (.pointer (some ⟨b,off,none⟩))) (hy:ev fr y = some v) (ho:off = 0 + i * Enc.sz α + j) (hv:v.cells.toList = us) (hl:us.length = sz) (hj:j + sz ≤ Enc.sz α)
    (h1:us.all (·.oneCell') = true) (hn:∀ h c,R h x0 c→R h x1 (c.take j ++ us ++ c.drop (j + sz))) :
    Sd P n ⟨none,.store t x y,ty,pos,aft,g⟩ fr (Sat w0 G) (fun _:Unit=>undef) (fun _=>Sat w0 (G.set k (row B e (.slice (some ⟨b,0,none⟩) len cap) (xs.set i x1)))):=fun a w kn s=>by
  have hil:i < xs.length:=(List.getElem?_eq_some_iff.1 hx0).1
  obtain ⟨p0,hp0,hl0,hb0⟩:=s.get k hk
  rcases hp0 with ⟨hv',_⟩ | ⟨g',cap',cs,sp,hv',hgp,hlc,hcm,hlen,hr⟩
  · cases hv'
  simp only [Value.slice.injEq,Option.some.injEq,Addr.mk.injEq,and_true,true_and] at hv'
  obtain ⟨rfl,rfl,rfl⟩:=hv'
  have hcl:=hr.length
  have hib:i * Enc.sz α + Enc.sz α ≤ xs.length * Enc.sz α:=by
    have:=Nat.mul_le_mul_right (Enc.sz α) (show i + 1 ≤ xs.length by omega)
    rw [Nat.add_mul] at this; omega
  have hrun:=run_storeVar1 (P:=P) (o:=off) ht (hl0 _ _ hgp) hv hl (by simp only [List.length_append]; omega) (fun u hu=>List.all_eq_true.1 h1 u hu)
  simp [execOp,kn.ev hx,kn.ev hy,Instr.storeAt,Instr.sureAddr,hrun,solidRes]
  refine s.turn k hk _ rfl rfl rfl (by simp) fun p hp hlp hb=>?_
  rcases hp with ⟨hv'',_⟩ | ⟨g',cap',cs',sp',hv'',hgp',hlc',hcm',hlen',hr'⟩
  · cases hv''
  simp only [Value.slice.injEq,Option.some.injEq,Addr.mk.injEq,and_true,true_and] at hv''
  obtain ⟨rfl,rfl,rfl⟩:=hv''
  have he:cs' = cs∧sp' = sp:=by
    have h1:=hlp _ _ hgp'
    have h2:w.heap[b]? = some (.cells (cs ++ sp).toArray e (0,0)):=hl0 _ _ hgp
    have h3:w.heap[b]? = some (.cells (cs' ++ sp').toArray e (0,0)):=h1
    rw [h2] at h3
    have h4:cs ++ sp = cs' ++ sp':=by simpa using h3
    have h5:=congrArg (List.take cs.length) h4
    rw [List.take_left,hcl,← hr'.length,List.take_left] at h5
    have h6:=congrArg (List.drop cs.length) h4
    rw [List.drop_left,hcl,← hr'.length,List.drop_left] at h6
    exact ⟨h5.symm,h6.symm⟩
  obtain ⟨rfl,rfl⟩:=he
  obtain ⟨c,hc,hg⟩:=hr'.get hx0
  have hcl2:=Enc.len hc
  have hset:=hr'.set hil (hn _ c hc)
  have hce:c = (cs'.drop (i * Enc.sz α)).take (Enc.sz α):=by
    apply List.ext_getElem?
    intro j
    rw [List.getElem?_take,List.getElem?_drop]
    by_cases hj:j < Enc.sz α
    · rw [if_pos hj]
      cases hcj:c[j]? with
      | none=>rw [List.getElem?_eq_none_iff] at hcj; omega
      | some v=>rw [hg j v hcj]
    · rw [if_neg hj,List.getElem?_eq_none]; omega
  have harr:(cs' ++ sp').take off ++ us ++ (cs' ++ sp').drop (off + sz) = (cs'.take (i * Enc.sz α) ++ (c.take j ++ us ++ c.drop (j + sz)) ++ cs'.drop (i * Enc.sz α + Enc.sz α)) ++ sp':=by
    have e1:cs'.take (i * Enc.sz α) ++ c.take j = cs'.take off:=by
      rw [hce,List.take_take,Nat.min_eq_left (by omega),ho,Nat.zero_add,List.take_add]
    have e2:c.drop (j + sz) ++ cs'.drop (i * Enc.sz α + Enc.sz α) = cs'.drop (off + sz):=by
      rw [hce,List.drop_take,List.drop_drop,ho,Nat.zero_add]
      have:cs'.drop (i * Enc.sz α + Enc.sz α) = (cs'.drop (i * Enc.sz α + (j + sz))).drop (Enc.sz α - (j + sz)):=by rw [List.drop_drop]; congr 1; omega
      rw [this,List.take_append_drop,Nat.add_assoc]
    rw [List.take_append_of_le_length (by omega),List.drop_append_of_le_length (by omega),← e1,← e2]
    simp [List.append_assoc]
  have harr':((cs' ++ sp').take off ++ (us ++ (cs' ++ sp').drop (off + sz))) = (cs'.take (i * Enc.sz α) ++ (c.take j ++ us ++ c.drop (j + sz)) ++ cs'.drop (i * Enc.sz α + Enc.sz α)) ++ sp':=by
    rw [← harr]; simp [List.append_assoc]
  refine ⟨fun d hd hdn=>setRow_other w b d _ (fun e'=>by rw [e',hgp'] at hdn; cases hdn),fun d=>if d = b then some (.cells ((cs' ++ sp').take off ++ (us ++ (cs' ++ sp').drop (off + sz))).toArray e (0,0)) else p d,.inr ⟨b,cap,cs'.take (i * Enc.sz α) ++ (c.take j ++ us ++ c.drop (j + sz)) ++ cs'.drop (i * Enc.sz α + Enc.sz α),sp',by simp,?_,by simpa using hlc,hcm,?_,?_⟩,fun d o' hdo=>?_⟩
  · simp only [if_pos]; rw [harr']
  · have:=congrArg List.length harr'
    rw [← this]
    simp only [List.length_append,List.length_take,List.length_drop] at hlen ⊢
    omega
  · have hoff:Hp.off (fun d=>if d = b then some (.cells ((cs' ++ sp').take off ++ (us ++ (cs' ++ sp').drop (off + sz))).toArray e (0,0)) else p d) b = p.off b:=by
      funext d; unfold Hp.off; split <;> simp_all
    rw [hoff]; exact hset
  · dsimp only at hdo
    split at hdo
    · rename_i hdb; subst hdb; cases hdo
      exact ⟨.inl (by rw [hgp']; simp),by
        have:=setRow_heap w d (cs' ++ sp').toArray ((cs' ++ sp').take off ++ (us ++ (cs' ++ sp').drop (off + sz))).toArray e (0,0) (hlp _ _ hgp')
        simpa using this⟩
    · rename_i hdb
      exact ⟨.inl (by rw [hdo]; simp),by rw [setRow_other w b d _ hdb]; exact hlp d o' hdo⟩
end
end Go.Vg
set_option linter.unusedSimpArgs false
set_option linter.unusedVariables false
namespace Go.Vg

inductive Kd | pu | wk | rd | so | br
  deriving DecidableEq

def waits (ops:Array Oper) (j i:Nat):Bool:=match ops[j]? with
  | some o=>o.after.any fun e=>Region.binds .any e && e.on == i
  | none=>false
def freeOf (ops:Array Oper) (listed:Array Bool) (i:Nat):Bool:=match ops[i]? with
  | some oi=>(List.range ops.size).all fun j=>j == i || listed.getD j true || waits ops j i || (match ops[j]? with | some oj=>oi.apart ops oj | none=>true)
  | none=>false
def planOk (ops:Array Oper):Array Bool→List (Nat × Kd)→Bool
  | listed,[]=>(Region.ready .any ops listed).isEmpty
  | listed,(i,k) :: r =>
    (Region.ready .any ops listed).contains i &&
    (match k with
      | .pu | .wk=>freeOf ops listed i
      | .rd=>freeOf ops listed i && r.all fun (j,kj)=>kj != .br || waits ops j i
      | .so | .br=>Region.ready .any ops listed == [i]) &&
    planOk ops (listed.setIfInBounds i true) r
def noSel (ops:Array Oper):Bool:=ops.all fun o=>match o.op with | .select ..=>false | _=>true

section
variable {P:Program} {n:Nat} {ops:Array Oper} {Q:Po} {kd:Nat→Kd} {Cw:As}

def StepX (P:Program) (n:Nat) (ops:Array Oper) (kd:Nat→Kd) (Cw:As) (j:Nat) (fr:Fr) (S:As) (next:Fr→As→Prop):Prop :=
  match ops[j]? with
  | none=>next fr S
  | some o=>dOk n o.dst = true∧((gval ops fr o.guard = some false∧next (putF o.dst undef fr) S) ∨
    (gval ops fr o.guard = some true∧∃ (ι:Type) (val:ι→Value) (S':ι→As),Sd P n o fr S val S' ∧
      (∀ k,ClE (S' k))∧(∀ k w,S' k w→Cw w)∧(kd j ≠ .br→∀ k w,S' k w→S w)∧∀ k,(∃ w,S' k w)→next (putF o.dst (val k) fr) (S' k)))

def AX (P:Program) (n:Nat) (ops:Array Oper) (Q:Po) (kd:Nat→Kd) (Cw:As):Nat→Array Bool→Fr→As→Prop
  | 0,listed,fr,S=>Region.ready .any ops listed = []∧Cont n (Q .normal) fr S
  | m + 1,listed,fr,S=>(Region.ready .any ops listed = []→Cont n (Q .normal) fr S) ∧
    ∀ j ∈ Region.ready .any ops listed,StepX P n ops kd Cw j fr S (fun fr' S'=>AX P n ops Q kd Cw m (listed.setIfInBounds j true) fr' S')

theorem knows_congr {fr fr':Fr} (h:∀ i,look fr i = look fr' i) {a:Act} (k:Knows n fr' a):Knows n fr a:=⟨k.size,k.defers,fun i v hi=>k.get i v (by rw [← h]; exact hi)⟩
theorem gval_congr {fr fr':Fr} (h:∀ i,look fr i = look fr' i) (g:Option (Nat × Bool)):gval ops fr g = gval ops fr' g:=by
  have:look fr = look fr':=funext h
  cases g with
  | none=>rfl
  | some jb=>simp [gval,this]
theorem look_putF_congr {fr fr':Fr} (h:∀ i,look fr i = look fr' i) (d:Option Nat) (v:Value):∀ i,look (putF d v fr) i = look (putF d v fr') i:=by
  intro i
  cases d with
  | none=>exact h i
  | some d=>simp only [putF,look_cons,h]
theorem StepX.mono {j:Nat} {fr:Fr} {S:As} {N N':Fr→As→Prop} (h:∀ fr S,N fr S→N' fr S) (hs:StepX P n ops kd Cw j fr S N):StepX P n ops kd Cw j fr S N':=by
  unfold StepX at *
  split
  · rename_i ho; simp only [ho] at hs; exact h _ _ hs
  · rename_i o ho
    simp only [ho] at hs
    refine ⟨hs.1,?_⟩
    rcases hs.2 with ⟨h1,h2⟩ | ⟨h1,ι,val,S',h2,h3,h4,h5,h6⟩
    · exact .inl ⟨h1,h _ _ h2⟩
    · exact .inr ⟨h1,ι,val,S',h2,h3,h4,h5,fun k e=>h _ _ (h6 k e)⟩
theorem AX.congr:∀ {m:Nat} {listed:Array Bool} {fr fr':Fr} {S:As},(∀ i,look fr i = look fr' i)→AX P n ops Q kd Cw m listed fr S→AX P n ops Q kd Cw m listed fr' S
  | 0,listed,fr,fr',S,h,hx=>⟨hx.1,fun a w k s=>hx.2 a w (knows_congr h k) s⟩
  | m + 1,listed,fr,fr',S,h,hx=>by
    refine ⟨fun h0 a w k s=>hx.1 h0 a w (knows_congr h k) s,fun j hj=>?_⟩
    have:=hx.2 j hj
    unfold StepX at *
    split
    · rename_i ho; simp only [ho] at this; exact AX.congr h this
    · rename_i o ho
      simp only [ho] at this
      refine ⟨this.1,?_⟩
      rcases this.2 with ⟨h1,h2⟩ | ⟨h1,ι,val,S',h2,h3,h4,h5,h6⟩
      · exact .inl ⟨by rw [← gval_congr h]; exact h1,AX.congr (look_putF_congr h _ _) h2⟩
      · exact .inr ⟨by rw [← gval_congr h]; exact h1,ι,val,S',fun a w k s=>h2 a w (knows_congr h k) s,h3,h4,h5,fun k e=>AX.congr (look_putF_congr h _ _) (h6 k e)⟩

theorem AX.sound:∀ (m:Nat) (listed:Array Bool) (fr:Fr) (S:As),AX P n ops Q kd Cw m listed fr S→∀ a w,Knows n fr a→S w→wpAny P .any ops Q m listed a w
  | 0,_,_,_,h,a,w,k,s=>⟨h.1,h.2 a w k s⟩
  | m + 1,listed,fr,S,h,a,w,k,s=>by
    refine ⟨fun h0=>h.1 h0 a w k s,fun j hj=>?_⟩
    have:=h.2 j hj
    unfold StepX at this
    unfold wpOp
    split
    · rename_i ho; simp only [ho] at this; exact AX.sound m _ _ _ this a w k s
    · rename_i o ho
      simp only [ho] at this
      obtain ⟨hd,⟨h1,h2⟩ | ⟨h1,ι,val,S',h2,h3,h4,h5,h6⟩⟩:=this
      · rw [wanted_of k h1,if_neg (by simp)]
        exact AX.sound m _ _ _ h2 _ w (k.putF hd _) s
      · rw [if_pos (wanted_of k h1)]
        refine .inl ?_
        have:=h2 a w k s
        unfold Oper.wp
        revert this
        generalize (execOp a.eval o).run P w = r
        intro h
        cases r with
        | ok x w' =>
          cases x <;> simp only [solidRes,Oper.upon] at h ⊢
          case value u=>obtain ⟨i,rfl,hs⟩:=h; exact AX.sound m _ _ _ (h6 i ⟨_,hs⟩) _ _ (k.putF hd _) hs
          case skip=>obtain ⟨i,hu,hs⟩:=h; rw [← hu]; exact AX.sound m _ _ _ (h6 i ⟨_,hs⟩) _ _ (k.putF hd _) hs
          case enter f args=>exact h.mono fun e w'' ⟨i,he,hs⟩=>by subst he; exact AX.sound m _ _ _ (h6 i ⟨_,hs⟩) _ _ (k.putF hd _) hs
        | halt x w'=>exact h.elim

def QX (P:Program) (n:Nat) (ops:Array Oper) (o:Oper) (fr:Fr) (C:As) (v:Value):Prop :=
  dOk n o.dst = true∧((gval ops fr o.guard = some false∧v = undef) ∨ (gval ops fr o.guard = some true∧Qt P n o fr C v))

theorem gval_put {o:Oper} {fr:Fr} {d:Option Nat} {v:Value} (h:∀ x,d = some x→x ∉ o.looksAt ops):gval ops (putF d v fr) o.guard = gval ops fr o.guard:=by
  cases d with
  | none=>rfl
  | some d =>
    have hd:=h d rfl
    cases hg:o.guard with
    | none=>rfl
    | some jb =>
      obtain ⟨j,b⟩:=jb
      simp only [gval,putF]
      cases he:(ops[j]?).bind (·.dst) with
      | none=>rfl
      | some e =>
        have hne:e ≠ d:=by
          intro hed
          subst hed
          apply hd
          unfold Oper.looksAt
          refine List.mem_append_right _ ?_
          simp [hg,he]
        simp only [Option.bind_some,look_cons,if_neg hne]
theorem Sd.unput {o:Oper} (hs:∀ cs b,o.op ≠ .select cs b) {fr:Fr} {S:As} {ι:Type} {val:ι→Value} {S':ι→As} {d:Option Nat} {v:Value} (hd:dOk n d = true) (h:∀ x,d = some x→x ∉ o.looksAt ops) (k:Sd P n o (putF d v fr) S val S'):Sd P n o fr S val S':=fun a w kn s=>by
  have:=k (a.put d v) w (kn.putF hd v) s
  rwa [execOp_put (ops:=ops) o hs a d v h] at this
theorem Qt.put {o:Oper} {fr:Fr} {C:As} {v:Value} {d:Option Nat} {u:Value} (k:Qt P n o fr C v) (hl:∀ a,Knows n (putF d u fr) a→∃ a0,Knows n fr a0∧execOp a.eval o = execOp a0.eval o):Qt P n o (putF d u fr) C v:=fun a w kn c=>by
  obtain ⟨a0,k0,e⟩:=hl a kn
  rw [e]; exact k a0 w k0 c
theorem unlook {o:Oper} (hs:∀ cs b,o.op ≠ .select cs b) {fr:Fr} {d:Option Nat} {u:Value} (hd:dOk n d = true) (h:∀ x,d = some x→x ∉ o.looksAt ops) (a:Act) (ka:Knows n (putF d u fr) a):∃ a0,Knows n fr a0∧execOp a.eval o = execOp a0.eval o:=by
  cases d with
  | none=>exact ⟨a,ka,rfl⟩
  | some d =>
    cases hl:look fr d with
    | some v0 =>
      refine ⟨a.put (some d) v0,⟨by simp [Act.put,ka.size],ka.defers,fun i v hi=>?_⟩,(execOp_put (ops:=ops) o hs a (some d) v0 h).symm⟩
      have hdn:d < n:=by simpa [dOk] using hd
      by_cases hid:i = d
      · subst hid; rw [hl] at hi; cases hi; simp [Act.put,ka.size,hdn]
      · have:=ka.get i v (by simp only [putF,look_cons,if_neg hid]; exact hi)
        simp [Act.put,Array.getElem?_setIfInBounds_ne (Ne.symm hid),this]
    | none =>
      refine ⟨a,⟨ka.size,ka.defers,fun i v hi=>?_⟩,rfl⟩
      by_cases hid:i = d
      · subst hid; rw [hl] at hi; cases hi
      · exact ka.get i v (by simp only [putF,look_cons,if_neg hid]; exact hi)

theorem look_comm {fr:Fr} {d d':Option Nat} {u v:Value} (h:∀ x,d = some x→d' ≠ some x) (i:Nat):look (putF d u (putF d' v fr)) i = look (putF d' v (putF d u fr)) i:=by
  cases d with
  | none=>rfl
  | some d =>
    cases d' with
    | none=>rfl
    | some d' =>
      have hne:d' ≠ d:=fun e=>h d rfl (by rw [e])
      simp only [putF,look_cons]
      by_cases h1:i = d
      · subst h1
        rw [if_pos rfl,if_neg (fun e=>hne e.symm),if_pos rfl]
      · rw [if_neg h1,if_neg h1]

theorem AX.first (hsel:∀ (j:Nat) (o:Oper) cs b,ops[j]? = some o→o.op ≠ .select cs b) {i:Nat} {oi:Oper} {v:Value} (hi:ops[i]? = some oi) (hkb:kd i ≠ .br) :
    ∀ (m:Nat) (listed:Array Bool) (fr:Fr) (S C:As),ClE S→(∀ w,S w→Cw w)→(∀ w,S w→C w) →
      (∀ j,kd j = .br→listed.getD j true = false→waits ops j i = false→∀ w,Cw w→C w) →
      (∀ j oj,ops[j]? = some oj→j ≠ i→listed.getD j true = false→waits ops j i = false→oi.apart ops oj = true) →
      i ∈ Region.ready .any ops listed→QX P n ops oi fr C v →
      AX P n ops Q kd Cw m (listed.setIfInBounds i true) (putF oi.dst v fr) S→AX P n ops Q kd Cw (m + 1) listed fr S:=by
  have own:∀ (fr:Fr) (S C:As) (N:Fr→As→Prop),ClE S→(∀ w,S w→Cw w)→(∀ w,S w→C w)→QX P n ops oi fr C v→N (putF oi.dst v fr) S→StepX P n ops kd Cw i fr S N:=by
    intro fr S C N hcl hcw hC hq hn
    unfold StepX
    simp only [hi]
    refine ⟨hq.1,?_⟩
    rcases hq.2 with ⟨h1,rfl⟩ | ⟨h1,h2⟩
    · exact .inl ⟨h1,hn⟩
    · exact .inr ⟨h1,Unit,_,_,h2.sd hcl hC,fun _=>hcl,fun _=>hcw,fun _ _ _ s=>s,fun _ _=>hn⟩
  intro m
  induction m with
  | zero =>
    intro listed fr S C hcl hcw hC hbr hfree hr hq H
    refine ⟨fun h=>(by rw [h] at hr; cases hr),fun j hj=>?_⟩
    by_cases hji:j = i
    · subst hji; exact own fr S C _ hcl hcw hC hq H
    · have:=ready_mono hj hji
      rw [H.1] at this
      cases this
  | succ m ih =>
    intro listed fr S C hcl hcw hC hbr hfree hr hq H
    refine ⟨fun h=>(by rw [h] at hr; cases hr),fun j hj=>?_⟩
    by_cases hji:j = i
    · subst hji; exact own fr S C _ hcl hcw hC hq H
    · have h1:=H.2 j (ready_mono hj hji)
      obtain ⟨hjun,oj,hoj,hall⟩:=mem_ready.1 hj
      have hiun:=(mem_ready.1 hr).1
      have hnw:waits ops j i = false:=by
        cases hw:waits ops j i with
        | false=>rfl
        | true =>
          unfold waits at hw
          simp only [hoj] at hw
          rw [Array.any_eq_true] at hw
          obtain ⟨x,hx,hpx⟩:=hw
          simp only [Bool.and_eq_true,beq_iff_eq] at hpx
          have h1:=hall _ (Array.getElem_mem hx) hpx.1
          rw [hpx.2] at h1
          rcases Nat.lt_or_ge i listed.size with h' | h'
          · simp [h'] at hiun h1; rw [hiun] at h1; cases h1
          · simp [Array.getElem?_eq_none h'] at h1
      have hap:=hfree j oj hoj hji hjun hnw
      obtain ⟨a1,a2,a3⟩:=Oper.apart_spec hap
      have hsi:=fun cs b=>hsel i oi cs b hi
      have hsj:=fun cs b=>hsel j oj cs b hoj
      have hr':i ∈ Region.ready .any ops (listed.setIfInBounds j true):=ready_mono hr (Ne.symm hji)
      have hun:∀ k,(listed.setIfInBounds j true).getD k true = false→listed.getD k true = false:=fun k hk=>by
        by_cases hjk:j = k
        · subst hjk; exact hjun
        · rw [getD_set_ne true hjk] at hk; exact hk
      have hbr':∀ k,kd k = .br→(listed.setIfInBounds j true).getD k true = false→waits ops k i = false→∀ w,Cw w→C w:=fun k hk hl hw=>hbr k hk (hun k hl) hw
      have hfree':∀ k ok,ops[k]? = some ok→k ≠ i→(listed.setIfInBounds j true).getD k true = false→waits ops k i = false→oi.apart ops ok = true:=fun k ok hk hki hl hw=>hfree k ok hk hki (hun k hl) hw
      have keep:∀ (u:Value),dOk n oj.dst = true→QX P n ops oi (putF oj.dst u fr) C v:=fun u hdj=>by
        refine ⟨hq.1,?_⟩
        rcases hq.2 with ⟨g1,g2⟩ | ⟨g1,g2⟩
        · exact .inl ⟨by rw [gval_put a3]; exact g1,g2⟩
        · exact .inr ⟨by rw [gval_put a3]; exact g1,g2.put fun a ka=>unlook hsi hdj a3 a ka⟩
      have swap:∀ (u:Value) (S':As),AX P n ops Q kd Cw m ((listed.setIfInBounds i true).setIfInBounds j true) (putF oj.dst u (putF oi.dst v fr)) S'→AX P n ops Q kd Cw m ((listed.setIfInBounds j true).setIfInBounds i true) (putF oi.dst v (putF oj.dst u fr)) S':=fun u S' h=>by
        rw [Array.setIfInBounds_comm _ _ hji]
        exact h.congr fun x=>look_comm (fun y hy=>fun hh=>a2 y hh hy) x
      unfold StepX at h1 ⊢
      simp only [hoj] at h1 ⊢
      refine ⟨h1.1,?_⟩
      rw [gval_put a1] at h1
      rcases h1.2 with ⟨g1,g2⟩ | ⟨g1,ι,val,S',g2,g3,g4,g5,g6⟩
      · exact .inl ⟨g1,ih _ _ S C hcl hcw hC hbr' hfree' hr' (keep undef h1.1) (swap _ _ g2)⟩
      · refine .inr ⟨g1,ι,val,S',Sd.unput hsj hq.1 a1 g2,g3,g4,g5,fun k e=>?_⟩
        refine ih _ _ (S' k) C (g3 k) (g4 k) (fun w s=>?_) hbr' hfree' hr' (keep (val k) h1.1) (swap _ _ (g6 k e))
        by_cases hkj:kd j = .br
        · exact hbr j hkj hjun hnw w (g4 k w s)
        · exact hC w (g5 hkj k w s)
end

def RD (P:Program) (n:Nat) (ops:Array Oper) (Q:Po) (full:List (Nat × Kd)) (Cw:As) (plan:List (Nat × Kd)) (fr:Fr) (S:As):Prop :=
  ∀ listed,planOk ops listed plan = true→noSel ops = true→(∀ i k,(i,k) ∈ plan→full.lookup i = some k)→(∀ j,listed.getD j true = false→full.lookup j = some .br→(j,Kd.br) ∈ plan)→(∃ w,S w) →
    AX P n ops Q (fun i=>(full.lookup i).getD .so) Cw plan.length listed fr S

section
variable {P:Program} {n:Nat} {ops:Array Oper} {Q:Po} {full plan:List (Nat × Kd)} {Cw S:As} {fr:Fr}
theorem noSel_spec (h:noSel ops = true):∀ (j:Nat) (o:Oper) cs b,ops[j]? = some o→o.op ≠ .select cs b:=by
  intro j o cs b ho hop
  unfold noSel at h
  rw [Array.all_eq_true_iff_forall_mem] at h
  have:=h o (Array.mem_of_getElem? ho)
  simp [hop] at this
theorem freeOf_spec {listed:Array Bool} {i:Nat} {oi:Oper} (hi:ops[i]? = some oi) (h:freeOf ops listed i = true):∀ j oj,ops[j]? = some oj→j ≠ i→listed.getD j true = false→waits ops j i = false→oi.apart ops oj = true:=by
  intro j oj hj hji hl hw
  unfold freeOf at h
  simp only [hi,List.all_eq_true,List.mem_range] at h
  have:=h j (Array.getElem?_eq_some_iff.1 hj).1
  simp only [hl,hw,hj,Bool.or_false,Bool.or_eq_true,beq_iff_eq] at this
  exact this.resolve_left hji
theorem RD.nil (h:Cont n (Q .normal) fr S):RD P n ops Q full Cw [] fr S:=fun listed hp _ _ _ _=>⟨by simpa [planOk] using hp,h⟩
theorem RD.quiet {i:Nat} {k:Kd} {o:Oper} {v:Value} (C:As) (hi:ops[i]? = some o) (hk:k = .pu ∨ k = .wk ∨ k = .rd) (hcl:ClE S) (hcw:∀ w,S w→Cw w) (hC:∀ w,S w→C w) (hkC:k ≠ .rd→∀ w,Cw w→C w)
    (hq:QX P n ops o fr C v) (h:RD P n ops Q full Cw plan (putF o.dst v fr) S):RD P n ops Q full Cw ((i,k) :: plan) fr S:=by
  intro listed hp hns hf hb hex
  simp only [planOk,Bool.and_eq_true,List.contains_iff_mem] at hp
  obtain ⟨⟨h1,h2⟩,h3⟩:=hp
  have hfi:=hf i k (by simp)
  have hnb:k ≠ .br:=by rcases hk with rfl | rfl | rfl <;> simp
  have hfree:freeOf ops listed i = true:=by
    rcases hk with rfl | rfl | rfl <;> simp at h2
    · exact h2
    · exact h2
    · exact h2.1
  refine AX.first (noSel_spec hns) hi (by simp [hfi,hnb]) plan.length listed fr S C hcl hcw hC ?_ (freeOf_spec hi hfree) h1 hq ?_
  · intro j hkj hl hw
    by_cases hkr:k = .rd
    · subst hkr
      simp only [Bool.and_eq_true,List.all_eq_true] at h2
      have hj:full.lookup j = some .br:=by
        cases hlj:full.lookup j with
        | none=>simp [hlj] at hkj
        | some x=>simp [hlj] at hkj; rw [hkj]
      have hmem:=hb j hl hj
      rcases List.mem_cons.1 hmem with e | e
      · cases e
      · have:=h2.2 _ e
        simp [hw] at this
    · exact hkC hkr
  · refine h _ h3 hns (fun j kj hj=>hf j kj (by simp [hj])) (fun j hl hj=>?_) hex
    have hl':listed.getD j true = false:=by
      by_cases hij:i = j
      · subst hij
        rw [hfi] at hj; cases hj; exact absurd rfl hnb
      · rw [getD_set_ne true hij] at hl; exact hl
    rcases List.mem_cons.1 (hb j hl' hj) with e | e
    · cases e; exact absurd rfl hnb
    · exact e
theorem RD.solid {i:Nat} {k:Kd} {o:Oper} (hi:ops[i]? = some o) (hk:k = .so ∨ k = .br) {ι:Type} {val:ι→Value} {S':ι→As} (hd:dOk n o.dst = true) (hg:gval ops fr o.guard = some true) (hs:Sd P n o fr S val S')
    (hcl:∀ x,ClE (S' x)) (hcw:∀ x w,S' x w→Cw w) (hpre:k = .so→∀ x w,S' x w→S w) (h:∀ x,RD P n ops Q full Cw plan (putF o.dst (val x) fr) (S' x)):RD P n ops Q full Cw ((i,k) :: plan) fr S:=by
  intro listed hp hns hf hb hex
  simp only [planOk,Bool.and_eq_true,List.contains_iff_mem] at hp
  obtain ⟨⟨h1,h2⟩,h3⟩:=hp
  have hfi:=hf i k (by simp)
  have hone:Region.ready .any ops listed = [i]:=by rcases hk with rfl | rfl <;> simpa using h2
  refine ⟨fun h0=>(by rw [hone] at h0; cases h0),fun j hj=>?_⟩
  rw [hone] at hj
  simp at hj; subst hj
  unfold StepX
  simp only [hi]
  refine ⟨hd,.inr ⟨hg,ι,val,S',hs,hcl,hcw,fun hnb=>?_,fun x hey=>?_⟩⟩
  · rcases hk with rfl | rfl
    · exact hpre rfl
    · simp [hfi] at hnb
  · refine h x _ h3 hns (fun j kj hj=>hf j kj (by simp [hj])) (fun y hl hy=>?_) hey
    have hjl:j < listed.size ∨ listed.size ≤ j:=Nat.lt_or_ge _ _
    have hne:j ≠ y:=by
      intro e; subst e
      rcases hjl with hjl | hjl
      · simp [hjl] at hl
      · simp [Array.getElem?_eq_none hjl] at hl
    rw [getD_set_ne true hne] at hl
    rcases List.mem_cons.1 (hb y hl hy) with e | e
    · cases e; exact absurd rfl hne
    · exact e
theorem RD.split (d:Nat) {b:Bool} (hb:look fr d = some (.bool b)) (ht:b = true→RD P n ops Q full Cw plan ((d,.bool true) :: fr) S) (hf:b = false→RD P n ops Q full Cw plan ((d,.bool false) :: fr) S):RD P n ops Q full Cw plan fr S:=by
  intro listed h1 h2 h3 h4 h5
  have hc:∀ i,look ((d,.bool b) :: fr) i = look fr i:=fun i=>by
    rw [look_cons]; split
    · rename_i e; rw [e,hb]
    · rfl
  cases b with
  | true=>exact (ht rfl listed h1 h2 h3 h4 h5).congr hc
  | false=>exact (hf rfl listed h1 h2 h3 h4 h5).congr hc
theorem RD.splitP (d:Nat) {p:Prop} [Decidable p] (hb:look fr d = some (.bool (decide p))) (ht:p→RD P n ops Q full Cw plan ((d,.bool true) :: fr) S) (hf:¬ p→RD P n ops Q full Cw plan ((d,.bool false) :: fr) S):RD P n ops Q full Cw plan fr S :=
  RD.split d hb (fun h=>ht (of_decide_eq_true h)) (fun h=>hf (of_decide_eq_false h))

theorem RD.p {i:Nat} {o:Oper} {v:Value} {w0:World} {G:List Ch} (hcw:∀ w,Sat w0 G w→Cw w) (hi:ops[i]? = some o) (h:Pu P n o fr v) (hg:gval ops fr o.guard = some true) (hd:dOk n o.dst = true)
    (hr:RD P n ops Q full Cw plan (putF o.dst v fr) (Sat w0 G)):RD P n ops Q full Cw ((i,.pu) :: plan) fr (Sat w0 G) :=
  RD.quiet (fun _=>True) hi (.inl rfl) (ClE.sat _ _) hcw (fun _ _=>trivial) (fun _ _ _=>trivial) ⟨hd,.inr ⟨hg,h.qt⟩⟩ hr
theorem RD.no {i:Nat} {o:Oper} {w0:World} {G:List Ch} (hcw:∀ w,Sat w0 G w→Cw w) (hi:ops[i]? = some o) (hg:gval ops fr o.guard = some false) (hd:dOk n o.dst = true) {k:Kd} (hk:k = .pu ∨ k = .wk ∨ k = .rd)
    (hr:RD P n ops Q full Cw plan (putF o.dst undef fr) (Sat w0 G)):RD P n ops Q full Cw ((i,k) :: plan) fr (Sat w0 G) :=
  RD.quiet (fun _=>True) hi hk (ClE.sat _ _) hcw (fun _ _=>trivial) (fun _ _ _=>trivial) ⟨hd,.inl ⟨hg,rfl⟩⟩ hr
theorem RD.q {i:Nat} {o:Oper} {v:Value} {w0:World} {G:List Ch} (hcw:∀ w,Sat w0 G w→Cw w) (hi:ops[i]? = some o) (h:Qt P n o fr (Sat w0 G) v) (hg:gval ops fr o.guard = some true) (hd:dOk n o.dst = true)
    (hr:RD P n ops Q full Cw plan (putF o.dst v fr) (Sat w0 G)):RD P n ops Q full Cw ((i,.rd) :: plan) fr (Sat w0 G) :=
  RD.quiet (Sat w0 G) hi (.inr (.inr rfl)) (ClE.sat _ _) hcw (fun _ s=>s) (fun h=>absurd rfl h) ⟨hd,.inr ⟨hg,h⟩⟩ hr
theorem RD.w {i:Nat} {o:Oper} {v:Value} {w0:World} {G:List Ch} (hcw:∀ w,Sat w0 G w→Cw w) (hi:ops[i]? = some o) (h:Qt P n o fr Cw v) (hg:gval ops fr o.guard = some true) (hd:dOk n o.dst = true)
    (hr:RD P n ops Q full Cw plan (putF o.dst v fr) (Sat w0 G)):RD P n ops Q full Cw ((i,.wk) :: plan) fr (Sat w0 G) :=
  RD.quiet Cw hi (.inr (.inl rfl)) (ClE.sat _ _) hcw hcw (fun _ _ h=>h) ⟨hd,.inr ⟨hg,h⟩⟩ hr

theorem T.drawn {id:Nat} (Cw:As) (plan:List (Nat × Kd)) (hm:P.follows .mixedOrders = true) (hcl:ClE S) (hp:(planOk ops (Array.replicate ops.size false) plan && noSel ops && plan.length == ops.size && (plan.all fun (i,k)=>plan.lookup i == some k)) = true)
    (h:RD P n ops Q plan Cw plan fr S):T P n (.region id ops true) fr S Q:=by
  simp only [Bool.and_eq_true,beq_iff_eq,List.all_eq_true] at hp
  obtain ⟨⟨⟨h1,h2⟩,h3⟩,h4⟩:=hp
  intro a w k s
  refine wp_region_any hm ?_
  have hx:=h _ h1 h2 (fun i kk hi=>by have:=h4 _ hi; simpa using this) (fun j hl hj=>?_) ⟨_,hcl _ _ s (Ext.drawn w 0)⟩
  · rw [h3] at hx
    exact hx.sound _ _ _ _ a _ k (hcl _ _ s (Ext.drawn w _))
  · have:∀ (l:List (Nat × Kd)),l.lookup j = some .br→(j,Kd.br) ∈ l:=by
      intro l
      induction l with
      | nil=>intro h; cases h
      | cons x l ih =>
        obtain ⟨y,ky⟩:=x
        rw [List.lookup_cons]
        split
        · rename_i e; intro h; cases h; simp at e; simp [e]
        · intro h; exact List.mem_cons_of_mem _ (ih h)
    exact this plan hj
end
end Go.Vg
set_option linter.unusedSimpArgs false
set_option linter.unusedVariables false
namespace Go.Vg
open Enc (R)

def stTy (P:Program) (t:TypeId):Option (List Value × List (Nat × Nat)) :=
  match P.info? t,P.underlying t with
  | some it,some (.struct fields) =>
    match it.zero,fields.toList.mapM (fun f=>(P.info? f.type).map fun i=>(f.offset,i.size)) with
    | some z,some places=>some (z.cells.toList,places)
    | _,_=>none
  | _,_=>none
theorem built_of {P:Program} {t:TypeId} {z:List Value} {pl:List (Nat × Nat)} (h:stTy P t = some (z,pl)) (vs:List (Nat × Value)):P.built t vs = Instr.fill (pl.toArray[·]?) z.toArray vs:=by
  unfold stTy at h
  unfold Program.built
  cases hit:P.info? t with
  | none=>simp [hit] at h
  | some it =>
    cases hu:P.underlying t with
    | none=>simp [hit,hu] at h
    | some d =>
      cases d <;> try (simp [hit,hu] at h; done)
      case struct fields =>
        cases hz:it.zero with
        | none=>simp [hit,hu,hz] at h
        | some z' =>
          cases hp:fields.toList.mapM (fun f=>(P.info? f.type).map fun i=>(f.offset,i.size)) with
          | none=>simp [hit,hu,hz,hp] at h
          | some places =>
            simp only [hit,hu,hz,hp,Option.some.injEq,Prod.mk.injEq] at h
            obtain ⟨rfl,rfl⟩:=h
            simp only [hz,hp,Array.toArray_toList]
section
variable {P:Program} {n:Nat} {fr:Fr} {dst:Option Tmp} {ty:TypeId} {pos:String} {aft:Array Edge} {g:Option (Nat × Bool)} {S:As} {w0:World} {G:List Ch}
theorem Pu.build {t:TypeId} {z:List Value} {pl:List (Nat × Nat)} {xs:List (Nat × Operand)} {vs:List (Nat × Value)} {cells:List Value} (ht:stTy P t = some (z,pl)) (hx:evp fr xs = some vs) (hc:fillL (pl[·]?) z vs = some cells) :
    Pu P n ⟨dst,.build t xs.toArray,ty,pos,aft,g⟩ fr (.agg cells.toArray):=fun a k w=>by
  have hv:=k.evp hx
  have hm:(xs.toArray.map fun x=>match x with | (i,x)=>(i,a.eval x)).toList = vs:=by simp; exact hv
  have:=run_build (P:=P) w t (xs.toArray.map fun (i,x)=>(i,a.eval x)) cells.toArray (by rw [hm,built_of ht]; simpa using fill_of hc)
  simp only [execOp,Sem.run_bind,this,Result.andThen_ok,Sem.run_pure]
theorem Pu.maxI {x y:Operand} {ts:Array TypeId} {k k':IntKind} {a b:Int} (hx:ev fr x = some (.int k a)) (hy:ev fr y = some (.int k' b)) :
    Pu P n ⟨dst,.call { callee:=.builtin .max,args:=#[x,y],argTypes:=ts },ty,pos,aft,g⟩ fr (.int k (max a b)):=fun ac kn w=>by
  have h:=run_max_int2 (P:=P) w ts ty k k' a b
  have e:(if b > a then b else a) = max a b:=by rw [Int.max_def]; split <;> split <;> omega
  rw [e] at h
  simp [execOp,resolve,invoke,builtin,kn.ev hx,kn.ev hy,h]
theorem Pu.minI {x y:Operand} {ts:Array TypeId} {k k':IntKind} {a b:Int} (hx:ev fr x = some (.int k a)) (hy:ev fr y = some (.int k' b)) :
    Pu P n ⟨dst,.call { callee:=.builtin .min,args:=#[x,y],argTypes:=ts },ty,pos,aft,g⟩ fr (.int k (min a b)):=fun ac kn w=>by
  have h:=run_min_int2 (P:=P) w ts ty k k' a b
  have e:(if b < a then b else a) = min a b:=by rw [Int.min_def]; split <;> split <;> omega
  rw [e] at h
  simp [execOp,resolve,invoke,builtin,kn.ev hx,kn.ev hy,h]

def cutP (p:Option Addr) (cap l sz:Nat):Option Addr:=if cap = l then p else p.map (·.add (l * sz))
theorem run_sliceOf {t e:TypeId} {sz by' len cap:Nat} {p:Option Addr} (ht:slTy P t = some (e,sz,by')) (lo hi:Option Value) (l h:Nat) (w:World) (hb:(Instr.sliceBounds true len cap lo hi none).run P w = .ok (l,h,cap) w) :
    (Instr.sliceAt t (.slice p len cap) lo hi none).run P w = .ok (.slice (cutP p cap l sz) (h - l) (cap - l)) w:=by
  obtain ⟨h1,inf,h2,rfl,_⟩:=slTy_spec ht
  simp [Instr.sliceAt,Instr.slice,run_underlying h1,hb,run_sizeOf_info h2,cutP]
theorem Pu.sliceL {t e:TypeId} {x lo:Operand} {sz by' len cap:Nat} {p:Option Addr} {k:IntKind} {j:Int} (ht:slTy P t = some (e,sz,by')) (hx:ev fr x = some (.slice p len cap)) (hl:ev fr lo = some (.int k j)) (h:0 ≤ j∧j ≤ len) :
    Pu P n ⟨dst,.slice t x (some lo) none none,ty,pos,aft,g⟩ fr (.slice (cutP p cap j.toNat sz) (len - j.toNat) (cap - j.toNat)):=fun a kn w=>by
  have:=run_sliceOf (P:=P) (p:=p) ht (some (.int k j)) none j.toNat len w (cap:=cap) (len:=len) (by simp [Instr.sliceBounds,Instr.sliceBound,asIntOf,h.1,h.2])
  simp only [execOp,kn.ev hx,Option.map_some,Option.map_none,kn.ev hl,Sem.run_bind,this,Result.andThen_ok,Sem.run_pure]
theorem cut_reads {α:Type} [Enc α] {h:Hp} {xs:List α} {p:Option Addr} {len cap:Nat} (hr:R h xs [.slice p len cap]) {l k:Nat} (hlk:l ≤ k) (hk:k ≤ xs.length) :
    R h ((xs.take k).drop l) [.slice (cutP p cap l (Enc.sz α)) (k - l) (cap - l)]:=by
  obtain ⟨p',cap',e,h1,h2,h3⟩:=hr
  simp at e
  obtain ⟨rfl,rfl,rfl⟩:=e
  refine ⟨cutP p cap l (Enc.sz α),cap - l,by simp [Nat.min_eq_left hk],by simp; omega,by unfold maxLen at *; omega,?_⟩
  rcases h3 with rfl | ⟨b,o,cs,rfl,hr,ha⟩
  · left; simp
  · by_cases hc:cap = l
    · left
      apply List.eq_nil_of_length_eq_zero
      simp; omega
    · right
      refine ⟨b,o + l * Enc.sz α,(cs.take (k * Enc.sz α)).drop (l * Enc.sz α),by simp [cutP,hc,add_lit],(hr.take k).drop l,?_⟩
      obtain ⟨c,t,f,hb,hg⟩:=ha
      refine ⟨c,t,f,hb,fun j v hj=>?_⟩
      rw [List.getElem?_drop,List.getElem?_take] at hj
      split at hj
      · rw [Nat.add_assoc]; exact hg _ _ hj
      · cases hj
theorem take_reads {α:Type} [Enc α] {h:Hp} {xs:List α} {p:Option Addr} {len cap:Nat} (hr:R h xs [.slice p len cap]) {k:Nat} (hk:k ≤ xs.length) :
    R h (xs.take k) [.slice p k cap]:=by
  have:=cut_reads hr (Nat.zero_le k) hk
  have e:cutP p cap 0 (Enc.sz α) = p:=by unfold cutP; split <;> cases p <;> simp [Addr.add]
  simpa [e] using this
theorem drop_reads {α:Type} [Enc α] {h:Hp} {xs:List α} {p:Option Addr} {len cap:Nat} (hr:R h xs [.slice p len cap]) {l:Nat} (hl:l ≤ xs.length) :
    R h (xs.drop l) [.slice (cutP p cap l (Enc.sz α)) (len - l) (cap - l)]:=by
  have hlen:len = xs.length:=by obtain ⟨p',cap',e,_⟩:=hr; simp at e; exact e.2.1
  have:=cut_reads hr hl (Nat.le_refl _)
  rw [List.take_length] at this
  rw [hlen]; exact this
end

theorem R_len {α:Type} [Enc α] {h:Hp} {xs:List α} {p:Option Addr} {len cap:Nat} (hr:R h xs [.slice p len cap]):len = xs.length∧len ≤ cap∧cap ≤ maxLen:=by
  obtain ⟨p',cap',e,h1,h2,_⟩:=hr
  simp at e
  obtain ⟨rfl,rfl,rfl⟩:=e
  exact ⟨rfl,h1,h2⟩
theorem R_form {α:Type} [Enc α] {h:Hp} {xs:List α} {v:Value} (hr:R h xs [v]):∃ p cap,v = .slice p xs.length cap:=by
  obtain ⟨p,cap,e,_⟩:=hr
  simp at e
  exact ⟨p,cap,e⟩
theorem R_ptr {α:Type} [Enc α] {h:Hp} {xs:List α} {p:Option Addr} {len cap:Nat} (hr:R h xs [.slice p len cap]) (hne:xs ≠ []):∃ b o,p = some ⟨b,o,none⟩:=by
  obtain ⟨p',cap',e,_,_,h3⟩:=hr
  simp at e
  obtain ⟨rfl,rfl,rfl⟩:=e
  rcases h3 with rfl | ⟨b,o,cs,rfl,_⟩
  · exact absurd rfl hne
  · exact ⟨b,o,rfl⟩
theorem Sat.drop1 {w0 w:World} {G D:List Ch} (h:Sat w0 (G ++ D) w):Sat w0 G w:=by
  obtain ⟨e,own,h2⟩:=h
  refine ⟨e,own,fun i C hi=>h2 i C ?_⟩
  rw [List.getElem?_append_left (List.getElem?_eq_some_iff.1 hi).1]; exact hi
theorem Sat.row_some {α:Type} [Enc α] {w0 w:World} {G:List Ch} {k m:Nat} {B:Hp} {e:TypeId} {q:Option Nat × Nat} {xs:List α} (h:Sat w0 G w) (hk:G[k]? = some (row B e (rowV q m) xs)) (hne:0 < xs.length):∃ g cap,q = (some g,cap):=by
  obtain ⟨p,hp,_⟩:=h.get k hk
  rcases hp with ⟨_,rfl⟩ | ⟨g,cap,cs,sp,hv,_⟩
  · simp at hne
  · obtain ⟨o,c⟩:=q
    cases o with
    | none=>simp [rowV] at hv
    | some g'=>exact ⟨g',c,rfl⟩
theorem row_take {α:Type} [Enc α] {B:Hp} {e:TypeId} {q:Option Nat × Nat} {m k:Nat} {xs:List α} {p:Hp} (h:row B e (rowV q m) xs p) (hk:k ≤ xs.length) (hq:q.1.isSome = true):row B e (rowV q k) (xs.take k) p:=by
  rcases h with ⟨hv,rfl⟩ | ⟨g,cap,cs,sp,hv,h1,h2,h3,h4,h5⟩
  · obtain ⟨o,c⟩:=q
    cases o with
    | none=>cases hq
    | some g=>simp [rowV] at hv
  · obtain ⟨o,c⟩:=q
    cases o with
    | none=>cases hq
    | some g' =>
      simp only [rowV,Value.slice.injEq,Option.map_some,Option.some.injEq,Addr.mk.injEq,and_true] at hv
      obtain ⟨rfl,rfl,rfl⟩:=hv
      have hl:=h5.length
      refine .inr ⟨g',c,cs.take (k * Enc.sz α),cs.drop (k * Enc.sz α) ++ sp,by simp [rowV,Nat.min_eq_left hk],by rw [← List.append_assoc,List.take_append_drop]; exact h1,by simp; omega,h3,?_,h5.take k⟩
      rw [← List.append_assoc,List.take_append_drop]; exact h4
theorem ieq {k:IntKind} {a b:Int} (h:a = b):some (Value.int k a) = some (Value.int k b):=by rw [h]
end Go.Vg
