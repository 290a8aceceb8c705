/-
  Texts of one's own, joined: VX V9.
-/
import Derived.Test.YtmngdgclldkcfaaGreatJ5
set_option linter.unusedSimpArgs false
set_option linter.unusedVariables false
namespace Go.Vg
open Go.RowKit (Below)
open Enc (R)

class Deep (α:Type) [Enc α] where
  D:Hp→α→List Value→Prop
  toR:∀ {h x c},D h x c→R h x c
  mono:∀ {h h' x c},h.le h'→D h x c→D h' x c

theorem star_mono {A B:Ch} {h h':Hp} (hl:h.le h'):star A B h→star A B h':=fun ⟨p,q,a,b,c,d,e⟩=>⟨p,q,a,b,c,Hp.le_trans d hl,Hp.le_trans e hl⟩
theorem stars_mono:∀ {L:List Ch} {h h':Hp},h.le h'→stars L h→stars L h'
 | [],_,_,_,_=>trivial
 | _ :: _,_,_,hl,s=>star_mono hl s

section
variable {α:Type} [Enc α] [Deep α]
def DRF:Hp→List α→List Value→Prop
  | _,[],cs=>cs = []
  | h,x :: xs,cs=>∃ c r p q,cs = c ++ r∧Deep.D p x c∧DRF q xs r∧(∀ b,p b = none ∨ q b = none)∧Hp.le p h∧Hp.le q h
theorem DRF.mono {h h':Hp} (hl:h.le h'):∀ {xs:List α} {cs:List Value},DRF h xs cs→DRF h' xs cs
 | [],_,e=>e
 | _ :: _,_,⟨c,r,p,q,e,a,b,d,l1,l2⟩=>⟨c,r,p,q,e,a,b,d,Hp.le_trans l1 hl,Hp.le_trans l2 hl⟩
theorem DRF.toRF {h:Hp}:∀ {xs:List α} {cs:List Value},DRF h xs cs→RF h xs cs
 | [],_,e=>e
 | _ :: _,_,⟨c,r,p,q,e,a,b,d,l1,l2⟩=>⟨c,r,e,Enc.mono l1 (Deep.toR a),(DRF.toRF b).mono l2⟩
theorem DRF.append {q:Hp} {ys:List α} {ds:List Value} (hy:DRF q ys ds):∀ {xs:List α} {cs:List Value} {p r:Hp},DRF p xs cs→(∀ b,p b = none ∨ q b = none)→p.le r→q.le r→DRF r (xs ++ ys) (cs ++ ds)
 | [],_,p,r,e,_,_,l=>by rw [show _ = [] from e]; exact hy.mono l
 | x :: xs,_,p,r,⟨c,t,p1,q1,e,a,b,d,l1,l2⟩,ha,hp,hq=>by
  subst e
  have hu1:q1.le (q1.over q):=Hp.le_over q1 q
  have hu2:q.le (q1.over q):=fun k o ho=>by
   unfold Hp.over
   cases hk:q1 k with
   | none=>exact ho
   | some o' =>
    have h1:=l2 k o' hk
    rcases ha k with h | h
    ·rw [h] at h1; cases h1
    ·rw [h] at ho; cases ho
  have ih:=DRF.append (r:=q1.over q) hy b (fun k=>by
   rcases ha k with h | h
   ·cases hk:q1 k with
    | none=>exact .inl rfl
    | some o=>have:=l2 k o hk; rw [h] at this; cases this
   ·exact .inr h) hu1 hu2
  refine ⟨c,t ++ ds,p1,q1.over q,by simp,a,ih,fun k=>?_,Hp.le_trans l1 hp,Hp.over_le (Hp.le_trans l2 hp) hq⟩
  rcases d k with h | h
  ·exact .inl h
  ·cases hk:p1 k with
   | none=>exact .inl rfl
   | some o =>
    have h1:=l1 k o hk
    refine .inr ?_
    unfold Hp.over
    rw [h]
    rcases ha k with h2 | h2
    ·rw [h2] at h1; cases h1
    ·exact h2
theorem DRF.cons' {A B:Ch} {x:α} {xs:List α} {c r:List Value} (hA:∀ p,A p→Deep.D p x c) (hB:∀ q,B q→DRF q xs r):∀ h,star A B h→DRF h (x :: xs) (c ++ r) :=
 fun _ ⟨p,q,a,b,d,l1,l2⟩=>⟨c,r,p,q,rfl,hA p a,hB q b,d,l1,l2⟩
theorem DRF.nil':∀ h,stars [] h→DRF h ([]:List α) []:=fun _ _=>rfl
theorem DRF.set {h:Hp}:∀ {xs:List α} {cs:List Value} {i:Nat} {x x1:α} (f s:Nat) {us:List Value},DRF h xs cs→xs[i]? = some x→us.length = s→f + s ≤ Enc.sz α→(∀ p c,Deep.D p x c→Deep.D p x1 (c.take f ++ us ++ c.drop (f + s))) →
  DRF h (xs.set i x1) (cs.take (i * Enc.sz α + f) ++ us ++ cs.drop (i * Enc.sz α + f + s))
 | [],_,i,x,x1,f,s,us,_,hi,_,_,_=>by simp at hi
 | y :: xs,_,0,x,x1,f,s,us,⟨c,r,p,q,e,a,b,d,l1,l2⟩,hi,hus,hf,hn=>by
  simp at hi; subst hi; subst e
  have hc:c.length = Enc.sz α:=Enc.len (Deep.toR a)
  refine ⟨_,r,p,q,?_,hn p c a,b,d,l1,l2⟩
  rw [Nat.zero_mul,Nat.zero_add,List.take_append_of_le_length (by omega),List.drop_append_of_le_length (by omega),List.append_assoc]
  simp
 | y :: xs,_,i + 1,x,x1,f,s,us,⟨c,r,p,q,e,a,b,d,l1,l2⟩,hi,hus,hf,hn=>by
  subst e
  have hc:c.length = Enc.sz α:=Enc.len (Deep.toR a)
  have ih:=DRF.set (x:=x) (x1:=x1) f s b (i:=i) (by simpa using hi) hus hf hn
  refine ⟨c,_,p,q,?_,a,ih,d,l1,l2⟩
  have e1:(i + 1) * Enc.sz α + f = c.length + (i * Enc.sz α + f):=by rw [hc,Nat.add_mul]; omega
  have e2:(i + 1) * Enc.sz α + f + s = c.length + (i * Enc.sz α + f + s):=by rw [hc,Nat.add_mul]; omega
  rw [e2,e1,List.take_append,List.drop_append,Nat.add_sub_cancel_left,Nat.add_sub_cancel_left,List.take_of_length_le (by omega),List.drop_of_length_le (by omega)]
  simp
end
def FB {α:Type} [Enc α] (B:Hp):Hp→List α→List Value→Prop:=fun h xs cs=>RF (h.over B) xs cs
def FH {α:Type} [Enc α] (H:Hp):Hp→List α→List Value→Prop:=fun h xs cs=>H.le h∧RF h xs cs

class PhM {α:Type} [Enc α] (w0:World) (Φ:Hp→List α→List Value→Prop):Prop where
  mono:∀ {h h':Hp} {xs:List α} {cs:List Value},h.le h'→(∀ b o,h' b = some o→w0.heap.size ≤ b)→Φ h xs cs→Φ h' xs cs
class Ph {α:Type} [Enc α] (w0:World) (Φ:Hp→List α→List Value→Prop):Prop extends PhM w0 Φ where
  rd:∀ {w:World} {h:Hp} {xs:List α} {cs:List Value},Ext w0 w→h.le (hpOf w)→Φ h xs cs→RF (hpOf w) xs cs
instance {α:Type} [Enc α] [Deep α] {w0:World}:Ph w0 (DRF (α:=α)):={ mono:=fun hl _ d=>d.mono hl,rd:=fun _ hl d=>d.toRF.mono hl }
instance {α:Type} [Enc α] {w0:World}:Ph w0 (FB (α:=α) (hpOf w0)) :=
  { mono:=fun hl hb d=>RF.mono (Hp.over_mono' hl fun b o e=>by
      have h2:=lt_of_hp e
      rename_i h h' xs cs
      cases hk:h' b with
      | none=>rfl
      | some o'=>have h1:=hb b o' hk; omega) d,rd:=fun he hl d=>RF.mono (Hp.over_le hl he.hp) d }
instance {α:Type} [Enc α] {w0:World} {H:Hp}:Ph w0 (FH (α:=α) H):={ mono:=fun hl _ d=>⟨Hp.le_trans d.1 hl,d.2.mono hl⟩,rd:=fun _ hl d=>d.2.mono hl }

def rowG {α:Type} [Enc α] (Φ:Hp→List α→List Value→Prop) (e:TypeId) (v:Value) (xs:List α):Ch:=fun h =>
  (v = .slice none 0 0∧xs = []∧Φ h [] []) ∨
  ∃ g cap cs sp,v = .slice (some ⟨g,0,none⟩) xs.length cap∧h g = some (.cells (cs ++ sp).toArray e (0,0))∧xs.length ≤ cap∧cap ≤ maxLen∧(cs ++ sp).length = cap * Enc.sz α∧Φ (h.off g) xs cs
abbrev drow {α:Type} [Enc α] [Deep α] (e:TypeId) (v:Value) (xs:List α):Ch:=rowG DRF e v xs

theorem Hp.off_mono {h h':Hp} (hl:h.le h') (g:Nat):(h.off g).le (h'.off g):=fun b o e=>by
 unfold Hp.off at e ⊢
 split at e
 ·cases e
 ·rename_i hb; rw [if_neg hb]; exact hl b o e
theorem RFrow {α:Type} [Enc α] {h:Hp} {g cap:Nat} {cs sp:List Value} {e:TypeId} {xs:List α} (h2:h g = some (.cells (cs ++ sp).toArray e (0,0))) (h3:xs.length ≤ cap) (h4:cap ≤ maxLen) (h6:RF h xs cs):R h xs [.slice (some ⟨g,0,none⟩) xs.length cap] :=
 ⟨_,cap,rfl,h3,h4,.inr ⟨g,0,cs,rfl,h6,⟨_,e,_,h2,fun j v hj=>by
  rw [Nat.zero_add,List.getElem?_toArray,List.getElem?_append_left (List.getElem?_eq_some_iff.1 hj).1]
  exact hj⟩⟩⟩
theorem row_R {α:Type} [Enc α] {e:TypeId} {v:Value} {xs:List α} {h:Hp}:row nilH e v xs h→R h xs [v]
 | .inl ⟨h1,h2⟩=>by subst h1; subst h2; exact ⟨none,0,rfl,by simp,by simp,.inl rfl⟩
 | .inr ⟨g,cap,cs,sp,h1,h2,h3,h4,h5,h6⟩=>by subst h1; exact RFrow h2 h3 h4 (h6.mono (Hp.over_le (Hp.off_le _ _) (nilH_le _)))
theorem drow_R {α:Type} [Enc α] [Deep α] {e:TypeId} {v:Value} {xs:List α} {h:Hp}:drow e v xs h→R h xs [v]
 | .inl ⟨h1,h2,_⟩=>by subst h1; subst h2; exact ⟨none,0,rfl,by simp,by simp,.inl rfl⟩
 | .inr ⟨g,cap,cs,sp,h1,h2,h3,h4,h5,h6⟩=>by subst h1; exact RFrow h2 h3 h4 (h6.toRF.mono (Hp.off_le _ _))
theorem row_some' {α:Type} [Enc α] {e:TypeId} {q:Option Nat × Nat} {m:Nat} {xs:List α} {h:Hp} (hr:R h xs [rowV q m]) (hne:0 < xs.length):∃ g cap,q = (some g,cap):=by
 obtain ⟨p,cap,e,_,_,s⟩:=hr
 rcases s with rfl | ⟨b,o,cs,rfl,_⟩
 ·simp at hne
 ·obtain ⟨o',c⟩:=q
  cases o' with
  | none=>simp [rowV] at e
  | some g'=>exact ⟨g',c,rfl⟩

section
variable {w0 w:World} {G:List Ch} {α:Type} [Enc α] {Φ:Hp→List α→List Value→Prop}
theorem rowG_fits {e:TypeId} {q:Option Nat × Nat} {m:Nat} {xs:List α} {p:Hp} (hp:rowG Φ e (rowV q m) xs p):m = xs.length∧m ≤ q.2∧q.2 ≤ maxLen:=by
 rcases hp with ⟨hv,rfl,_⟩ | ⟨g,cap,cs,sp,hv,_,hle,hm,_⟩
 ·simp only [rowV,Value.slice.injEq] at hv
  obtain ⟨_,rfl,h2⟩:=hv
  rw [h2]; exact ⟨rfl,Nat.le_refl _,Nat.zero_le _⟩
 ·simp only [rowV,Value.slice.injEq] at hv
  obtain ⟨_,rfl,h2⟩:=hv
  rw [h2]; exact ⟨rfl,hle,hm⟩
theorem Sat.row_fitsG {k m:Nat} {e:TypeId} {q:Option Nat × Nat} {xs:List α} (h:Sat w0 G w) (hk:G[k]? = some (rowG Φ e (rowV q m) xs)):m = xs.length∧m ≤ q.2∧q.2 ≤ maxLen:=by
 obtain ⟨p,hp,_⟩:=h.get k hk
 exact rowG_fits hp
theorem Sat.row_someG {k m:Nat} {e:TypeId} {q:Option Nat × Nat} {xs:List α} (h:Sat w0 G w) (hk:G[k]? = some (rowG Φ e (rowV q m) xs)) (hne:0 < xs.length):∃ g cap,q = (some g,cap):=by
 obtain ⟨p,hp,_⟩:=h.get k hk
 rcases hp with ⟨_,rfl,_⟩ | ⟨g,cap,cs,sp,hv,_⟩
 ·simp at hne
 ·obtain ⟨o,c⟩:=q
  cases o with
  | none=>simp [rowV] at hv
  | some g'=>exact ⟨g',c,rfl⟩
theorem Sat.getRowG [Ph w0 Φ] {k:Nat} {e:TypeId} {v:Value} {xs:List α} (h:Sat w0 G w) (hk:G[k]? = some (rowG Φ e v xs)):R (hpOf w) xs [v]:=by
 obtain ⟨p,hp,hl,hb⟩:=h.get k hk
 rcases hp with ⟨rfl,rfl,_⟩ | ⟨g,cap,cs,sp,rfl,hg,hle,hm,hlen,hr⟩
 ·exact ⟨none,0,rfl,by simp,by simp,.inl rfl⟩
 ·exact RFrow (hl _ _ hg) hle hm (Ph.rd (w0:=w0) h.ext (Hp.le_trans (Hp.off_le _ _) hl) hr)
theorem Rd.ofG [Ph w0 Φ] (k:Nat) {e:TypeId} {v:Value} {xs:List α} (hk:G[k]? = some (rowG Φ e v xs)):Rd (Sat w0 G) xs [v]:=fun w s=>s.getRowG hk
theorem Sat.relenG {e:TypeId} {q:Option Nat × Nat} {m:Nat} {xs:List α} (k:Nat) (h:Sat w0 G w) (hk:G[k]? = some (rowG Φ e (rowV q m) xs)):Sat w0 (G.set k (rowG Φ e (rowV q xs.length) xs)) w :=
 h.weaken k hk _ fun p hp=>by rw [← (rowG_fits hp).1]; exact hp
theorem Sat.nilRowG [Deep α] (e:TypeId) (h:Sat w0 G w):Sat w0 (G ++ [drow e (rowV (none,0) 0) ([]:List α)]) w:=h.addEmpty _ (fun p=>.inl ⟨rfl,rfl,rfl⟩)
def fz (h:Hp):Ch:=fun p=>p = h
def Held (S:As) (H:Hp):Prop:=∀ w,S w→H.le (hpOf w)
theorem Held.base:Held (Sat w0 G) (hpOf w0):=fun w s=>s.ext.hp
theorem Held.fz {h:Hp} (k:Nat) (hk:G[k]? = some (fz h)):Held (Sat w0 G) h:=fun w s=>by
 obtain ⟨p,hp,hl,_⟩:=s.get k hk
 rw [← show p = h from hp]; exact hl
theorem Held.over {S:As} {A B:Hp} (a:Held S A) (b:Held S B):Held S (A.over B):=fun w s=>Hp.over_le (a w s) (b w s)
theorem Sat.freeze (k:Nat) {C:Ch} (hk:G[k]? = some C) (s:Sat w0 G w):∃ h,C h∧Sat w0 (G.set k (fz h)) w:=by
 obtain ⟨h1,own,h2⟩:=s
 have hli:k < G.length:=(List.getElem?_eq_some_iff.1 hk).1
 obtain ⟨p,hp,hb⟩:=h2 k C hk
 refine ⟨p,hp,h1,own,fun j D hj=>?_⟩
 by_cases hjk:k = j
 ·subst hjk
  rw [List.getElem?_set_self hli] at hj
  exact ⟨p,by have:=Option.some.inj hj; subst this; rfl,hb⟩
 ·rw [List.getElem?_set_ne hjk] at hj
  exact h2 j D hj
theorem Sat.thaw {h:Hp} {C:Ch} (hz:C h) (k:Nat) (hk:G[k]? = some (fz h)) (s:Sat w0 G w):Sat w0 (G.set k C) w:=s.weaken k hk C fun p e=>by rw [show p = h from e]; exact hz
theorem Rd.held {S:As} {H:Hp} (hh:Held S H) {β:Type} [Enc β] {x:β} {cs:List Value} (hr:R H x cs):Rd S x cs:=fun w s=>Enc.mono (hh w s) hr
theorem Rd.ofFz {h:Hp} (k:Nat) (hk:G[k]? = some (fz h)) {β:Type} [Enc β] {x:β} {cs:List Value} (hr:R h x cs):Rd (Sat w0 G) x cs:=Rd.held (Held.fz k hk) hr
end
section
variable {P:Program} {n:Nat} {fr:Fr} {S:As} {Q:Po}
theorem RS.exP {ops:Array Oper} {l:List Oper} {ι:Type} {p:ι→Prop} {S':ι→As} (hp:∀ w,S w→∃ i,p i∧S' i w) (h:∀ i,p i→RS P n ops Q l fr (S' i)):RS P n ops Q l fr S:=fun a w k s=>let ⟨i,h1,s'⟩:=hp w s; h i h1 a w k s'
theorem T.exP {c:Code} {ι:Type} {p:ι→Prop} {S':ι→As} (hp:∀ w,S w→∃ i,p i∧S' i w) (h:∀ i,p i→T P n c fr (S' i) Q):T P n c fr S Q:=fun a w k s=>let ⟨i,h1,s'⟩:=hp w s; h i h1 a w k s'
end

def pc (p:Prop):Ch:=fun _=>p
theorem Sat.addPc {w0 w:World} {G:List Ch} {p:Prop} (s:Sat w0 G w) (hp:p):Sat w0 (G ++ [pc p]) w:=s.addEmpty _ fun _=>hp
theorem Sat.getPc {w0 w:World} {G:List Ch} {p:Prop} (k:Nat) (s:Sat w0 G w) (hk:G[k]? = some (pc p)):p:=by
 obtain ⟨q,hq,_⟩:=s.get k hk
 exact hq
theorem Sat.merge2 {w0 w:World} {G:List Ch} {A B:Ch} (k j:Nat) (hk:G[k]? = some A) (hj:G[j]? = some B) (hne:k ≠ j) (C:Ch) (hc:∀ p q r:Hp,A p→B q→(∀ b,p b = none ∨ q b = none)→p.le r→q.le r→C r) (s:Sat w0 G w) :
  Sat w0 ((G.set k C).set j dead) w:=by
 obtain ⟨h1,own,h2⟩:=s
 obtain ⟨p,hp,hb⟩:=h2 k A hk
 obtain ⟨q,hq,hbq⟩:=h2 j B hj
 have hkl:=(List.getElem?_eq_some_iff.1 hk).1
 have hjl:=(List.getElem?_eq_some_iff.1 hj).1
 refine ⟨h1,fun b=>if own b = j then k else own b,fun i E hi=>?_⟩
 have hd:∀ b,p b = none ∨ q b = none:=fun b=>by
  cases e:p b with
  | none=>exact .inl rfl
  | some o =>
   cases e':q b with
   | none=>exact .inr rfl
   | some o'=>have h3:=(hb b o e).2.1; have h4:=(hbq b o' e').2.1; omega
 by_cases hij:j = i
 ·subst hij
  rw [List.getElem?_set_self (by simpa using hjl)] at hi
  exact ⟨fun _=>none,by rw [← Option.some.inj hi]; trivial,fun b o e=>by cases e⟩
 ·rw [List.getElem?_set_ne hij] at hi
  by_cases hik:k = i
  ·subst hik
   rw [List.getElem?_set_self hkl] at hi
   have:=(Option.some.inj hi).symm; subst this
   refine ⟨p.over q,hc p q _ hp hq hd (Hp.le_over p q) (fun b o e=>?_),fun b o e=>?_⟩
   ·unfold Hp.over
    rcases hd b with h | h
    ·rw [h]; exact e
    ·rw [h] at e; cases e
   ·unfold Hp.over at e
    split at e
    ·rename_i o' e'; cases e
     obtain ⟨a1,a2,a3⟩:=hb b _ e'
     exact ⟨a1,by simp [a2,hne],a3⟩
    ·obtain ⟨a1,a2,a3⟩:=hbq b _ e
     exact ⟨a1,by simp [a2],a3⟩
  ·rw [List.getElem?_set_ne hik] at hi
   obtain ⟨u,hu,hbu⟩:=h2 i E hi
   refine ⟨u,hu,fun b o e=>?_⟩
   obtain ⟨a1,a2,a3⟩:=hbu b o e
   exact ⟨a1,by show (if own b = j then k else own b) = i; rw [a2,if_neg (fun h=>hij h.symm)],a3⟩
theorem Sat.starAt {w0 w:World} {G:List Ch} {A B:Ch} (k j:Nat) (s:Sat w0 G w) (hk:G[k]? = some A) (hj:G[j]? = some B) (hne:k ≠ j):Sat w0 ((G.set k (star A B)).set j dead) w :=
 s.merge2 k j hk hj hne _ fun p q r a b c d e=>⟨p,q,a,b,c,d,e⟩
theorem Sat.noStars {w0 w:World} {G:List Ch} (s:Sat w0 G w):Sat w0 (G ++ [stars []]) w:=s.addEmpty _ fun _=>trivial

section
variable {P:Program} {n:Nat} {fr:Fr} {dst:Option Tmp} {ty:TypeId} {pos:String} {aft:Array Edge} {g:Option (Nat × Bool)} {S:As} {w0:World} {G:List Ch}
def rowAndG {α:Type} [Enc α] (Φ:Hp→List α→List Value→Prop) (e:TypeId) (v:Value) (xs ys:List α) (news:List Value):Ch:=fun h =>
  (v = .slice none 0 0∧xs = []∧Φ h ys news) ∨
  ∃ g cap cs sp,v = .slice (some ⟨g,0,none⟩) xs.length cap∧h g = some (.cells (cs ++ sp).toArray e (0,0))∧xs.length ≤ cap∧cap ≤ maxLen∧(cs ++ sp).length = cap * Enc.sz α∧cs.length = xs.length * Enc.sz α∧Φ (h.off g) (xs ++ ys) (cs ++ news)
theorem Sat.appendG {α:Type} [Enc α] {Φ:Hp→List α→List Value→Prop} [PhM w0 Φ] {w:World} (s:Sat w0 G w) {k:Nat} {C:Ch} (hk:G[k]? = some C) {t e ty:TypeId} {by':Nat} {z:Value} {v:Value} {xs ys:List α} {news:List Value}
  (ht:slTy P t = some (e,Enc.sz α,by')) (hz:zeroOf P e = some z) (hzs:z.cells.size = Enc.sz α)
  (hC:∀ p,C p→(∀ b o,p b = some o→w0.heap.size ≤ b)→rowAndG Φ e v xs ys news p) {q:Addr} {m c:Nat} (hm:ys.length = m) (hnews:∀ j u,news[j]? = some u→w.cell? (q.add j) = some u)
  (hnl:news.length = ys.length * Enc.sz α) (hone:∀ u ∈ news,u.oneCell' = true) (hbytes:(xs.length + m) * by' ≤ 140737488355328) (h63:xs.length + m ≤ maxLen) :
  ∃ v' w',(Builtin.append_ #[t,t] ty #[v,.slice (some q) m c]).run P w = .ok v' w'∧Sat w0 (G.set k (rowG Φ e v' (xs ++ ys))) w':=by
 obtain ⟨hu,i,hi,hsz',hby⟩:=slTy_spec ht
 subst hby
 obtain ⟨i',hi',hz'⟩:=Option.bind_eq_some_iff.1 hz
 rw [hi] at hi'; cases hi'
 have h63':((xs.length + m:Nat):Int) ≤ 9223372036854775807:=by unfold maxLen at h63; omega
 subst hm
 have hw0:=s.ext.size
 have hnl':news.length = ys.length * i.size:=by rw [hnl,hsz']
 have fresh:∀ (A:Hp→Hp) (cs:List Value) (cap:Nat),(∀ p,(A p).le p)→cs.length = xs.length * Enc.sz α→(∀ p,C p→p.le (hpOf w)→(∀ b o,p b = some o→w0.heap.size ≤ b)→Φ (A p) (xs ++ ys) (cs ++ news))→xs.length + ys.length ≤ cap→cap ≤ maxLen →
   Sat w0 (G.set k (rowG Φ e (.slice (some ⟨w.heap.size,0,none⟩) (xs ++ ys).length cap) (xs ++ ys))) (w.drew.alloc (.cells (cs.toArray ++ news.toArray ++ Builtin.zeroCells z.cells (cap - (xs.length + ys.length))) e)):=by
  intro A cs cap hA hcl hcs hcap hcm
  refine s.turn k hk _ rfl rfl rfl (by simp) fun p hp hl hb=>?_
  have hxy:=hcs p hp hl hb
  refine ⟨fun b hb' hn=>(Below.heap_alloc w.drew _ b (by simpa using hb')),fun b=>if b = w.heap.size then some (.cells (cs.toArray ++ news.toArray ++ Builtin.zeroCells z.cells (cap - (xs.length + ys.length))) e (0,0)) else p b,.inr ?_,fun b o hbo=>?_⟩
  ·refine ⟨w.heap.size,cap,cs ++ news,(Builtin.zeroCells z.cells (cap - (xs.length + ys.length))).toList,rfl,?_,by simpa using hcap,hcm,?_,?_⟩
   ·simp
   ·simp only [List.length_append,hcl,hnl,Array.length_toList,size_zeroCells,hzs,← Nat.add_mul]
    congr 1
    omega
   ·refine PhM.mono (w0:=w0) (h:=A p) (fun b o hbo=>?_) (fun b o hbo=>?_) hxy
    ·have hpb:=hA p b o hbo
     have hlt:=lt_of_hp (hl b o hpb)
     unfold Hp.off
     rw [if_neg (by omega)]
     show (if b = w.heap.size then _ else p b) = _
     rw [if_neg (by omega)]; exact hpb
    ·unfold Hp.off at hbo
     split at hbo
     ·cases hbo
     ·rename_i hne
      dsimp only at hbo
      rw [if_neg hne] at hbo
      exact hb b o hbo
  ·dsimp only at hbo
   split at hbo
   ·rename_i hbw
    subst hbw; cases hbo
    exact ⟨.inr (Nat.le_refl _),heap_alloc_new w.drew _⟩
   ·exact ⟨.inl (by rw [hbo]; simp),by rw [Below.heap_alloc w.drew _ b (by simpa using lt_of_hp (hl b o hbo))]; exact hl b o hbo⟩
 obtain ⟨p0,hp0,hl0,hb0⟩:=s.get k hk
 rcases hC p0 hp0 hb0 with ⟨rfl,rfl,hy⟩ | ⟨g,cap,cs,sp,rfl,hgp,hlc,hcm,hlen,hcsl,hxy⟩
 ·by_cases hm:ys.length = 0
  ·have hys:ys = []:=List.eq_nil_of_length_eq_zero hm
   subst hys
   have hn:news = []:=List.eq_nil_of_length_eq_zero (by simpa using hnl)
   subst hn
   refine ⟨.slice none 0 0,w,?_,?_⟩
   ·simp [Builtin.append_,run_underlying hu,sizeOf,typeInfo,hi,Builtin.lenOf,Builtin.firstCells,loadCells,loadCellsFrom]
   ·refine ⟨s.1,?_⟩
    obtain ⟨h1,own,h2⟩:=s
    refine ⟨own,fun j E hj=>?_⟩
    by_cases hjk:k = j
    ·subst hjk
     rw [List.getElem?_set_self (List.getElem?_eq_some_iff.1 hk).1] at hj
     have:=(Option.some.inj hj).symm; subst this
     obtain ⟨p,hp,hb⟩:=h2 k C hk
     refine ⟨p,?_,hb⟩
     rcases hC p hp (fun b o e=>(hb b o e).1) with ⟨_,_,hy'⟩ | ⟨g,cap,cs,sp,hv,_⟩
     ·exact .inl ⟨rfl,rfl,hy'⟩
     ·cases hv
    ·rw [List.getElem?_set_ne hjk] at hj
     exact h2 j E hj
  ·have hr:=run_append_nil (P:=P) w t ty e i z hu hi hz' q ys.length c news hnl' hnews (by omega) (by simpa using h63') (by have hb:=hbytes; simp only [List.length_nil,Nat.zero_add] at hb; omega)
   have hge:=grownCap_ge w ys.length 0 e
   have hle:=grownCap_le_maxLen w ys.length 0 e (by simpa using h63)
   have:=fresh (fun p=>p) [] (grownCap w ys.length 0 e) (fun p=>Hp.le_refl p) (by simp) (fun p hp hl hb=>?_) (by simpa using hge) hle
   ·simp only [List.nil_append,List.length_nil,Nat.zero_add,Array.empty_append] at this
    exact ⟨_,_,hr,by simpa using this⟩
   ·rcases hC p hp hb with ⟨_,_,hy'⟩ | ⟨g,cap,cs,sp,hv,_⟩
    ·exact hy'
    ·cases hv
 ·have hwg:=hl0 _ _ hgp
  have same:∀ p',C p'→p'.le (hpOf w)→(∀ b o,p' b = some o→w0.heap.size ≤ b)→p' g = some (.cells (cs ++ sp).toArray e (0,0))∧Φ (p'.off g) (xs ++ ys) (cs ++ news):=fun p' hp' hl' hb'=>by
   rcases hC p' hp' hb' with ⟨hv,_,_⟩ | ⟨g',cap',cs',sp',hv,hgp',hlc',hcm',hlen',hcsl',hxy'⟩
   ·cases hv
   ·simp only [Value.slice.injEq,Option.some.injEq,Addr.mk.injEq,and_true,true_and] at hv
    obtain ⟨rfl,rfl⟩:=hv
    have he:cs' = cs∧sp' = sp:=by
     have h1:=hl' _ _ hgp'
     have h2:w.heap[g]? = some (.cells (cs ++ sp).toArray e (0,0)):=hwg
     have h3:w.heap[g]? = some (.cells (cs' ++ sp').toArray e (0,0)):=h1
     rw [h2] at h3
     have h4:cs ++ sp = cs' ++ sp':=by simpa using h3
     have h5:=congrArg (List.take cs.length) h4
     rw [List.take_left,hcsl,← hcsl',List.take_left] at h5
     refine ⟨h5.symm,?_⟩
     rw [h5] at h4
     exact (List.append_cancel_left h4).symm
    obtain ⟨rfl,rfl⟩:=he
    exact ⟨hgp',hxy'⟩
  by_cases hroom:xs.length + ys.length ≤ cap
  ·have hfit:xs.length * i.size + news.length ≤ (cs ++ sp).toArray.size:=by
    simp only [List.size_toArray,hlen,hnl',hsz',← Nat.add_mul]
    exact Nat.mul_le_mul_right _ hroom
   have hr:=run_append_room (P:=P) w t ty e i hu hi g xs.length cap (cs ++ sp).toArray hwg q ys.length c news hnl' hnews hone hroom hfit
   refine ⟨_,_,hr,?_⟩
   have harr:(cs ++ sp).toArray.toList.take (xs.length * i.size) ++ news ++ (cs ++ sp).toArray.toList.drop (xs.length * i.size + news.length) = (cs ++ news) ++ sp.drop news.length:=by
    rw [hsz',← hcsl]
    simp [List.drop_append]
   rw [harr]
   refine s.turn k hk _ rfl rfl rfl (by simp) fun p hp hl hb=>?_
   obtain ⟨hgp',hxy'⟩:=same p hp hl hb
   refine ⟨fun b hb' hn=>setRow_other w g b _ (fun e'=>by rw [e',hgp'] at hn; cases hn),fun b=>if b = g then some (.cells ((cs ++ news) ++ sp.drop news.length).toArray e (0,0)) else p b,.inr ?_,fun b o hbo=>?_⟩
   ·refine ⟨g,cap,cs ++ news,sp.drop news.length,by simp,by simp,by simpa using hroom,hcm,?_,?_⟩
    ·have h1:=hlen
     simp only [List.length_append,List.length_drop] at h1 ⊢
     have h2:cs.length + news.length ≤ cap * Enc.sz α:=by rw [hcsl,hnl,← Nat.add_mul]; exact Nat.mul_le_mul_right _ hroom
     omega
    ·have hoff:Hp.off (fun b=>if b = g then some (.cells ((cs ++ news) ++ sp.drop news.length).toArray e (0,0)) else p b) g = p.off g:=by
      funext b; unfold Hp.off; split <;> simp_all
     rw [hoff]
     exact hxy'
   ·dsimp only at hbo
    split at hbo
    ·rename_i hbg; subst hbg; cases hbo
     exact ⟨.inl (by rw [hgp']; simp),setRow_heap w b _ _ e (0,0) hwg⟩
    ·rename_i hbg
     exact ⟨.inl (by rw [hbo]; simp),by rw [setRow_other w g b _ hbg]; exact hl b o hbo⟩
  ·have holds:∀ j u,cs[j]? = some u→w.cell? ((⟨g,0,none⟩:Addr).add j) = some u:=fun j u hj=>by
    have hw:w.heap[g]? = some (.cells (cs ++ sp).toArray e (0,0)):=hwg
    rw [add_lit]
    simp [World.cell?,hw,List.getElem?_append_left (List.getElem?_eq_some_iff.1 hj).1,hj]
   have hr:=run_append_grow (P:=P) w t ty e i z hu hi hz' ⟨g,0,none⟩ xs.length cap cs (by rw [hcsl,hsz']) holds q ys.length c news hnl' hnews (by omega) h63' (growslice_fits (by omega) hbytes)
   have hge:=grownCap_ge w (xs.length + ys.length) cap e
   have hle:=grownCap_le_maxLen w (xs.length + ys.length) cap e h63
   have:=fresh (fun p=>p.off g) cs (grownCap w (xs.length + ys.length) cap e) (fun p=>Hp.off_le p g) hcsl (fun p hp hl hb=>(same p hp hl hb).2) hge hle
   exact ⟨_,_,hr,by simpa using this⟩
theorem rowG_shape {α:Type} [Enc α] {Φ:Hp→List α→List Value→Prop} {e:TypeId} {v:Value} {xs:List α} {p:Hp} (h:rowG Φ e v xs p):∃ q:Option Nat × Nat,v = rowV q xs.length:=by
 rcases h with ⟨rfl,rfl,_⟩ | ⟨g,cap,cs,sp,rfl,_⟩
 ·exact ⟨(none,0),rfl⟩
 ·exact ⟨(some g,cap),rfl⟩
theorem Sd.appG {α:Type} [Enc α] {Φ:Hp→List α→List Value→Prop} [PhM w0 Φ] (k:Nat) {C:Ch} (hk:G[k]? = some C) {x y:Operand} {t e:TypeId} {by':Nat} {z v:Value} {xs ys:List α} {q:Addr} {m c:Nat}
  (ht:slTy P t = some (e,Enc.sz α,by')) (hz:zeroOf P e = some z) (hzs:z.cells.size = Enc.sz α) (hx:ev fr x = some v) (hy:ev fr y = some (.slice (some q) m c))
  (hm:ys.length = m) (hlt:xs.length + ys.length < 1099511627776) (hby:by' ≤ 128)
  (hC:∀ w,Sat w0 G w→∃ news,(∀ p,C p→p.le (hpOf w)→(∀ b o,p b = some o→w0.heap.size ≤ b)→rowAndG Φ e v xs ys news p)∧(∀ j u,news[j]? = some u→w.cell? (q.add j) = some u)∧news.length = ys.length * Enc.sz α∧∀ u ∈ news,u.oneCell' = true) :
  Sd P n ⟨dst,.call { callee:=.builtin .append,args:=#[x,y],argTypes:=#[t,t] },ty,pos,aft,g⟩ fr (Sat w0 G) (fun q=>rowV q (xs ++ ys).length) (fun q=>Sat w0 (G.set k (rowG Φ e (rowV q (xs ++ ys).length) (xs ++ ys)))):=fun a w kn s=>by
 have hbytes:(xs.length + m) * by' ≤ 140737488355328:=by
  have:=Nat.mul_le_mul (show xs.length + m ≤ 1099511627776 by omega) hby; omega
 have h63:xs.length + m ≤ maxLen:=by unfold maxLen; omega
 obtain ⟨news,hC,h1,h2,h3⟩:=hC w s
 have s':Sat w0 (G.set k (fun p=>C p∧p.le (hpOf w))) w:=by
  obtain ⟨e1,own,h2⟩:=s
  refine ⟨e1,own,fun j E hj=>?_⟩
  by_cases hjk:k = j
  ·subst hjk
   rw [List.getElem?_set_self (List.getElem?_eq_some_iff.1 hk).1] at hj
   have:=(Option.some.inj hj).symm; subst this
   obtain ⟨p,hp,hb⟩:=h2 k C hk
   exact ⟨p,⟨hp,fun b o e=>(hb b o e).2.2⟩,hb⟩
  ·rw [List.getElem?_set_ne hjk] at hj
   exact h2 j E hj
 have hkl:k < G.length:=(List.getElem?_eq_some_iff.1 hk).1
 obtain ⟨v',w',hr,hs⟩:=s'.appendG (ty:=ty) (k:=k) (List.getElem?_set_self hkl) ht hz hzs (fun p hp hb=>hC p hp.1 hp.2 hb) hm h1 h2 h3 hbytes h63 (c:=c)
 rw [run_builtin_append kn hx hy hr]
 rw [List.set_set] at hs
 obtain ⟨p,hp,_⟩:=hs.get k (List.getElem?_set_self hkl)
 obtain ⟨q',hq⟩:=rowG_shape hp
 exact ⟨q',hq,by show Sat w0 (G.set k (rowG Φ e (rowV q' (xs ++ ys).length) (xs ++ ys))) w'; rw [← hq]; exact hs⟩
def dand {α:Type} [Enc α] [Deep α] (e:TypeId) (v:Value) (xs ys:List α) (news:List Value):Ch:=star (drow e v xs) (fun q=>DRF q ys news)
theorem dand_row {α:Type} [Enc α] [Deep α] {e:TypeId} {v:Value} {xs ys:List α} {news:List Value} {r:Hp} (h:dand e v xs ys news r):rowAndG DRF e v xs ys news r:=by
 obtain ⟨p,q,hp,hq,hd,l1,l2⟩:=h
 rcases hp with ⟨rfl,rfl,_⟩ | ⟨g,cap,cs,sp,hv,hg,h3,h4,h5,h6⟩
 ·exact .inl ⟨rfl,rfl,hq.mono l2⟩
 ·refine .inr ⟨g,cap,cs,sp,hv,l1 _ _ hg,h3,h4,h5,h6.toRF.length,?_⟩
  refine DRF.append hq h6 (fun b=>?_) (Hp.off_mono l1 g) (fun b o e=>?_)
  ·rcases hd b with h | h
   ·refine .inl ?_
    unfold Hp.off
    split
    ·rfl
    ·exact h
   ·exact .inr h
  ·unfold Hp.off
   have hbg:b ≠ g:=fun e'=>by
    subst e'
    rcases hd b with h | h
    ·rw [h] at hg; cases hg
    ·rw [h] at e; cases e
   rw [if_neg hbg]; exact l2 b o e
theorem Sd.appL {α:Type} [Enc α] [Deep α] (k k1 j:Nat) {L:Ch} {x y:Operand} {t e e':TypeId} {by':Nat} {z v:Value} {xs:List α} (ys:List α) {news:List Value} {b m c:Nat}
  (hk:G[k]? = some (drow e v xs)) (hk1:G[k1]? = some (blk b news e')) (hj:G[j]? = some L) (hL:∀ q,L q→DRF q ys news) (hne:(Nat.beq k j || (Nat.beq k1 k || Nat.beq k1 j)) = false)
  (ht:slTy P t = some (e,Enc.sz α,by')) (hz:zeroOf P e = some z) (hzs:z.cells.size = Enc.sz α) (hx:ev fr x = some v) (hy:ev fr y = some (.slice (some ⟨b,0,none⟩) m c))
  (hm:ys.length = m) (hlt:xs.length + ys.length < 1099511627776) (hby:by' ≤ 128) :
  Sd P n ⟨dst,.call { callee:=.builtin .append,args:=#[x,y],argTypes:=#[t,t] },ty,pos,aft,g⟩ fr (Sat w0 G) (fun q=>rowV q (xs ++ ys).length) (fun q=>Sat w0 ((G.set k (drow e (rowV q (xs ++ ys).length) (xs ++ ys))).set j dead)):=fun a w kn s=>by
 simp only [Bool.or_eq_false_iff] at hne
 have nkj:k ≠ j:=fun h=>by subst h; rw [Nat.beq_refl] at hne; cases hne.1
 have n1k:k1 ≠ k:=fun h=>by subst h; rw [Nat.beq_refl] at hne; cases hne.2.1
 have n1j:k1 ≠ j:=fun h=>by subst h; rw [Nat.beq_refl] at hne; cases hne.2.2
 have hkl:=(List.getElem?_eq_some_iff.1 hk).1
 have hjl:=(List.getElem?_eq_some_iff.1 hj).1
 have s1:=s.merge2 k j hk hj nkj (dand e v xs ys news) fun p q r a b d l1 l2=>⟨p,q,a,hL q b,d,l1,l2⟩
 have hk':((G.set k (dand e v xs ys news)).set j dead)[k]? = some (dand e v xs ys news):=by rw [List.getElem?_set_ne nkj.symm,List.getElem?_set_self hkl]
 have hk1':((G.set k (dand e v xs ys news)).set j dead)[k1]? = some (blk b news e'):=by rw [List.getElem?_set_ne n1j.symm,List.getElem?_set_ne n1k.symm]; exact hk1
 have h:=Sd.appG (P:=P) (n:=n) (fr:=fr) (dst:=dst) (ty:=ty) (pos:=pos) (aft:=aft) (g:=g) (Φ:=DRF) k hk' ht hz hzs hx hy hm hlt hby (fun w' s'=>⟨news,fun p hp _ _=>dand_row hp,fun j u hj=>by
   rw [add_lit]; simp [World.cell?,(s'.getBlk hk1').1,hj],by
   obtain ⟨p,⟨p1,q1,_,hq,_⟩,_⟩:=s'.get k hk'
   exact hq.toRF.length,by
   obtain ⟨p,⟨p1,q1,_,hq,_⟩,_⟩:=s'.get k hk'
   exact hq.toRF.one⟩) a w kn s1
 have e2:∀ E:Ch,((G.set k (dand e v xs ys news)).set j dead).set k E = (G.set k E).set j dead:=fun E=>by rw [List.set_comm _ _ nkj.symm,List.set_set]
 simp only [e2] at h
 exact h
theorem Sd.appD {α:Type} [Enc α] [Deep α] (k j:Nat) {x y:Operand} {t e e':TypeId} {by':Nat} {z v vy:Value} {xs ys:List α}
  (hk:G[k]? = some (drow e v xs)) (hj:G[j]? = some (drow e' vy ys)) (hne:Nat.beq k j = false)
  (ht:slTy P t = some (e,Enc.sz α,by')) (hz:zeroOf P e = some z) (hzs:z.cells.size = Enc.sz α) (hx:ev fr x = some v) (hy:ev fr y = some vy)
  (hlt:xs.length + ys.length < 1099511627776) (hby:by' ≤ 128) :
  Sd P n ⟨dst,.call { callee:=.builtin .append,args:=#[x,y],argTypes:=#[t,t] },ty,pos,aft,g⟩ fr (Sat w0 G) (fun q=>rowV q (xs ++ ys).length) (fun q=>Sat w0 ((G.set k (drow e (rowV q (xs ++ ys).length) (xs ++ ys))).set j dead)):=fun a w kn s=>by
 have nkj:k ≠ j:=fun h=>by subst h; rw [Nat.beq_refl] at hne; cases hne
 have hkl:=(List.getElem?_eq_some_iff.1 hk).1
 have hjl:=(List.getElem?_eq_some_iff.1 hj).1
 obtain ⟨pj,hpj,hlj,_⟩:=s.get j hj
 rcases hpj with ⟨rfl,rfl,_⟩ | ⟨gj,capj,csj,spj,rfl,hgj,hlcj,hcmj,hlenj,hdj⟩
 ·-- nothing
  obtain ⟨p,hp,_⟩:=s.get k hk
  obtain ⟨q',hq⟩:=rowG_shape hp
  subst hq
  obtain ⟨hu,i,hi,_,_⟩:=slTy_spec ht
  have hf:=rowG_fits hp
  have hr:(Builtin.append_ #[t,t] ty #[rowV q' xs.length,.slice none 0 0]).run P w = .ok (rowV q' xs.length) w:=by
   obtain ⟨o,cc⟩:=q'
   have h1:xs.length ≤ cc:=hf.2.1
   cases o <;> simp [rowV,Builtin.append_,run_underlying hu,sizeOf,typeInfo,hi,Builtin.lenOf,Builtin.firstCells,storeCells,h1]
  rw [run_builtin_append kn hx hy hr]
  refine ⟨q',by simp,?_⟩
  have:=s.weaken j hj dead (fun _ _=>trivial)
  simp only [List.append_nil]
  have e1:(G.set k (drow e (rowV q' xs.length) xs)) = G:=by
   obtain ⟨hl,he⟩:=List.getElem?_eq_some_iff.1 hk
   exact he ▸ List.set_getElem_self hl
  rw [e1]; exact this
 ·obtain ⟨pj',hpj',s0⟩:=s.freeze j hj
  obtain ⟨gj',capj',csj',spj',hvj,hgj',hlcj',hcmj',hlenj',hdj'⟩:=(hpj'.resolve_left fun h=>by have h1:=h.1; cases h1)
  simp only [Value.slice.injEq,Option.some.injEq,Addr.mk.injEq,and_true,true_and] at hvj
  obtain ⟨rfl,rfl⟩:=hvj
  have hk0:(G.set j (fz pj'))[k]? = some (drow e v xs):=by rw [List.getElem?_set_ne nkj.symm]; exact hk
  have hj0:(G.set j (fz pj'))[j]? = some (fz pj'):=List.getElem?_set_self hjl
  have s1:=s0.merge2 k j hk0 hj0 nkj (fun r=>pj'.le r∧dand e v xs ys csj' r) fun p q r a b d l1 l2=>by
   rw [show q = pj' from b] at d l2
   exact ⟨l2,p,pj',a,hdj'.mono (Hp.off_le _ _),d,l1,l2⟩
  have hk':(((G.set j (fz pj')).set k (fun r=>pj'.le r∧dand e v xs ys csj' r)).set j dead)[k]? = some (fun r=>pj'.le r∧dand e v xs ys csj' r):=by
   rw [List.getElem?_set_ne nkj.symm,List.getElem?_set_self (by simpa using hkl)]
  have h:=Sd.appG (P:=P) (n:=n) (fr:=fr) (dst:=dst) (ty:=ty) (pos:=pos) (aft:=aft) (g:=g) (Φ:=DRF) k hk' ht hz hzs hx hy rfl hlt hby (fun w' s'=>⟨csj',fun p hp _ _=>dand_row hp.2,fun i u hi=>by
    obtain ⟨p,⟨hp,_⟩,hl,_⟩:=s'.get k hk'
    have hw:w'.heap[gj]? = some (.cells (csj' ++ spj').toArray e' (0,0)):=hl _ _ (hp _ _ hgj')
    rw [add_lit]
    simp [World.cell?,hw,List.getElem?_append_left (List.getElem?_eq_some_iff.1 hi).1,hi],hdj'.toRF.length,hdj'.toRF.one⟩) a w kn s1
  have e2:∀ C:Ch,(((G.set j (fz pj')).set k (fun r=>pj'.le r∧dand e v xs ys csj' r)).set j dead).set k C = (G.set k C).set j dead:=fun C=>by
   rw [List.set_comm _ _ nkj.symm,List.set_set,List.set_comm _ _ nkj.symm,List.set_set]
  simp only [e2] at h
  exact h
end
section
variable {P:Program} {n:Nat} {fr:Fr} {o:Oper}
theorem Sd.pre {S S0:As} {ι:Type} {val:ι→Value} {S':ι→As} (hs:∀ w,S w→S0 w) (h:Sd P n o fr S0 val S'):Sd P n o fr S val S':=fun a w k s=>h a w k (hs w s)
end
section
variable {P:Program} {n:Nat} {fr:Fr} {dst:Option Tmp} {ty:TypeId} {pos:String} {aft:Array Edge} {g:Option (Nat × Bool)} {S:As} {w0:World} {G:List Ch}
theorem R_el {α:Type} [Enc α] [Inhabited α] {H:Hp} {xs:List α} {b o len cap:Nat} (h:R H xs [.slice (some ⟨b,o,none⟩) len cap]) {ji:Int} (hj:0 ≤ ji∧ji < (xs.length:Int)) :
  ∃ c,R H (gi xs ji) c∧AtH H b (o + ji.toNat * Enc.sz α) c:=by
 obtain ⟨p',cap',e,s⟩:=h
 simp only [List.cons.injEq,Value.slice.injEq,and_true] at e
 obtain ⟨rfl,rfl,rfl⟩:=e
 rcases s.2.2 with rfl | ⟨b',o',cs,hp,hr,ha⟩
 ·simp at hj; omega
 ·simp only [Option.some.injEq,Addr.mk.injEq,and_true] at hp
  obtain ⟨rfl,rfl⟩:=hp
  obtain ⟨c,hc,hg⟩:=hr.get (gi_get hj)
  obtain ⟨d,t,f,e1,e2⟩:=ha
  exact ⟨c,hc,d,t,f,e1,fun j v hv=>by rw [Nat.add_assoc]; exact e2 _ _ (hg j v hv)⟩
theorem Qt.ldZ {t s:TypeId} {x:Operand} {b o:Nat} {cs:List Value} {H:Hp} (ht:tySz P t = some (s,true)) (hx:ev fr x = some (.pointer (some ⟨b,o,none⟩))) (ha:AtH H b o cs) (hh:Held S H) (hl:cs.length = s) :
  Qt P n ⟨dst,.load t x,ty,pos,aft,g⟩ fr S (.agg cs.toArray):=Qt.ldA ht hx hl fun w s j v hj=>(ha.mono (hh w s)).cell hj
theorem Qt.ldZ1 {t:TypeId} {x:Operand} {b o f:Nat} {cs:List Value} {v:Value} {H:Hp} (ht:tySz P t = some (1,false)) (hx:ev fr x = some (.pointer (some ⟨b,o + f,none⟩))) (ha:AtH H b o cs) (hh:Held S H) (hv:cs[f]? = some v) :
  Qt P n ⟨dst,.load t x,ty,pos,aft,g⟩ fr S v:=Qt.ld ht hx fun w s=>(ha.mono (hh w s)).cell hv
theorem Sat.litRowG {α:Type} [Enc α] [Deep α] {w:World} {m b:Nat} {cs:List Value} {e:TypeId} {L:Ch} (k j:Nat) (xs:List α) (h:Sat w0 G w) (hk:G[k]? = some (blk b cs e)) (hj:G[j]? = some L) (hne:k ≠ j) (hm:m ≤ maxLen) (hl:xs.length = m) (hr:∀ q,L q→DRF q xs cs) :
  Sat w0 ((G.set k (drow e (rowV (some b,m) m) xs)).set j dead) w :=
 h.merge2 k j hk hj hne _ fun p q r a bq d l1 l2=>by
  have hp:p b = some (.cells cs.toArray e (0,0)):=a
  refine .inr ⟨b,m,cs,[],by rw [hl]; rfl,by simpa using l1 _ _ hp,by omega,hm,by have:=(hr q bq).toRF.length; simp [this,hl],(hr q bq).mono fun b' o e'=>?_⟩
  unfold Hp.off
  have hbg:b' ≠ b:=fun e2=>by
   subst e2
   rcases d b' with h | h
   ·rw [h] at hp; cases hp
   ·rw [h] at e'; cases e'
  rw [if_neg hbg]; exact l2 b' o e'
theorem Sd.stD {α:Type} [Enc α] [Deep α] [Inhabited α] (k:Nat) {t e:TypeId} {x y:Operand} {xs:List α} {b cap s sz len f:Nat} {ji:Int} {gg:Bool} (x1:α) {v:Value} {us:List Value} (hk:G[k]? = some (drow e (.slice (some ⟨b,0,none⟩) len cap) xs)) (ht:tySz P t = some (s,gg))
  (hx:ev fr x = some (.pointer (some ⟨b,0 + ji.toNat * sz + f,none⟩))) (hy:ev fr y = some v) (hsz:sz = Enc.sz α) (hj:0 ≤ ji∧ji < xs.length) (hv:v.cells.toList = us) (hl:us.length = s) (hle:f + s ≤ Enc.sz α)
  (h1:us.all (·.oneCell') = true) (hn:∀ h c,Deep.D h (gi xs ji) c→Deep.D h x1 (c.take f ++ us ++ c.drop (f + s))) :
  Sd P n ⟨none,.store t x y,ty,pos,aft,g⟩ fr (Sat w0 G) (fun _:Unit=>undef) (fun _=>Sat w0 (G.set k (drow e (.slice (some ⟨b,0,none⟩) len cap) (si xs ji x1)))):=fun a w kn s0=>by
 subst hsz
 obtain ⟨p0,hp0,hl0,_⟩:=s0.get k hk
 rcases hp0 with ⟨hv0,_⟩ | ⟨g0,cap0,cs,sp,hv0,hg0,h3,h4,h5,h6⟩
 ·cases hv0
 simp only [Value.slice.injEq,Option.some.injEq,Addr.mk.injEq,and_true,true_and] at hv0
 obtain ⟨rfl,rfl,rfl⟩:=hv0
 have hcl:cs.length = xs.length * Enc.sz α:=h6.toRF.length
 have hw:w.heap[b]? = some (.cells (cs ++ sp).toArray e (0,0)):=hl0 _ _ hg0
 have hjn:ji.toNat < xs.length:=by omega
 have hpl:ji.toNat * Enc.sz α + Enc.sz α ≤ cs.length:=by
  rw [hcl,← Nat.succ_mul]; exact Nat.mul_le_mul_right _ hjn
 have ho:0 + ji.toNat * Enc.sz α + f + s ≤ (cs ++ sp).length:=by simp only [List.length_append]; omega
 have hr:=run_storeVar1 (P:=P) ht hw hv hl ho (fun u hu=>List.all_eq_true.1 h1 u hu)
 suffices hfin:Sat w0 (G.set k (drow e (.slice (some ⟨b,0,none⟩) xs.length cap) (si xs ji x1))) (w.setRow b ((cs ++ sp).take (0 + ji.toNat * Enc.sz α + f) ++ us ++ (cs ++ sp).drop (0 + ji.toNat * Enc.sz α + f + s)).toArray) by
  have hx':=kn.ev hx
  generalize 0 + ji.toNat * Enc.sz α + f = oo at hx' hr hfin
  simp [execOp,hx',kn.ev hy,Instr.storeAt,Instr.sureAddr,hr,solidRes]
  simpa using hfin
 refine s0.turn k hk _ rfl rfl rfl (by simp) fun p hp hlp hb=>?_
 rcases hp with ⟨hv0,_⟩ | ⟨g1,cap1,cs1,sp1,hv1,hg1,h31,h41,h51,h61⟩
 ·cases hv0
 simp only [Value.slice.injEq,Option.some.injEq,Addr.mk.injEq,and_true,true_and] at hv1
 obtain ⟨rfl,rfl⟩:=hv1
 have hcl1:cs1.length = xs.length * Enc.sz α:=h61.toRF.length
 have he:cs1 = cs∧sp1 = sp:=by
  have h7:w.heap[b]? = some (.cells (cs1 ++ sp1).toArray e (0,0)):=hlp _ _ hg1
  rw [hw] at h7
  have h8:cs ++ sp = cs1 ++ sp1:=by simpa using h7
  have h9:=congrArg (List.take cs.length) h8
  rw [List.take_left,hcl,← hcl1,List.take_left] at h9
  refine ⟨h9.symm,?_⟩
  rw [h9] at h8
  exact (List.append_cancel_left h8).symm
 obtain ⟨rfl,rfl⟩:=he
 have hd:=DRF.set f s h61 (i:=ji.toNat) (x:=gi xs ji) (x1:=x1) (gi_get hj) hl hle (fun p c hd=>hn p c hd)
 have hcells:(cs1 ++ sp1).take (0 + ji.toNat * Enc.sz α + f) ++ us ++ (cs1 ++ sp1).drop (0 + ji.toNat * Enc.sz α + f + s) = (cs1.take (ji.toNat * Enc.sz α + f) ++ us ++ cs1.drop (ji.toNat * Enc.sz α + f + s)) ++ sp1:=by
  rw [Nat.zero_add,List.take_append_of_le_length (by omega),List.drop_append_of_le_length (by omega)]; simp
 refine ⟨fun b' hb' hnn=>setRow_other w b b' _ (fun e'=>by rw [e',hg1] at hnn; cases hnn),fun b'=>if b' = b then some (.cells ((cs1 ++ sp1).take (0 + ji.toNat * Enc.sz α + f) ++ us ++ (cs1 ++ sp1).drop (0 + ji.toNat * Enc.sz α + f + s)).toArray e (0,0)) else p b',.inr ⟨b,cap,_,sp1,by rw [show (si xs ji x1).length = xs.length from len_si],by simp only [if_true]; rw [hcells],by rw [len_si]; exact h31,h41,?_,?_⟩,fun b' o hbo=>?_⟩
 ·have:=congrArg List.length hcells
  have h10:(cs1 ++ sp1).length = cap * Enc.sz α:=h51
  rw [← this]
  simp only [List.length_append,List.length_take,List.length_drop] at ho h10 ⊢
  omega
 ·have hoff:Hp.off (fun b'=>if b' = b then some (.cells ((cs1 ++ sp1).take (0 + ji.toNat * Enc.sz α + f) ++ us ++ (cs1 ++ sp1).drop (0 + ji.toNat * Enc.sz α + f + s)).toArray e (0,0)) else p b') b = p.off b:=by
   funext b'; unfold Hp.off; split <;> simp_all
  rw [hoff]; exact hd
 ·dsimp only at hbo
  split at hbo
  ·rename_i hbg; subst hbg; cases hbo
   exact ⟨.inl (by rw [hg1]; simp),by
    have:=setRow_heap w b' _ ((cs1 ++ sp1).take (0 + ji.toNat * Enc.sz α + f) ++ us ++ (cs1 ++ sp1).drop (0 + ji.toNat * Enc.sz α + f + s)).toArray e (0,0) (hlp _ _ hg1)
    simpa using this⟩
  ·rename_i hbg
   exact ⟨.inl (by rw [hbo]; simp),by
    have:=setRow_other w b b' ((cs1 ++ sp1).take (0 + ji.toNat * Enc.sz α + f) ++ us ++ (cs1 ++ sp1).drop (0 + ji.toNat * Enc.sz α + f + s)).toArray hbg
    simp only [Nat.zero_add] at this ⊢
    first | (rw [this]; exact hlp b' o hbo) | (simpa [this] using hlp b' o hbo)⟩
end
section
variable {P:Program} {n:Nat} {fr:Fr} {w0:World} {G:List Ch}
theorem Cont.retCT {fn:Func} {R:Ending→World→Prop} {t t' ty sz b:Nat} {e:TypeId} {cs:List Value} {v':Value} (k:Nat) (hr:fn.results = #[.cell t ty,.tmp t']) (ht:tySz P ty = some (sz,true)) (hv:look fr t = some (.pointer (some ⟨b,0,none⟩)))
  (hk:G[k]? = some (blk b cs e)) (hl:cs.length = sz) (hv':look fr t' = some v') (h:∀ w,Sat w0 G w→R (.returned (.tuple #[.agg cs.toArray,v'])) w):Cont n (bodyPost P fn R .ret) fr (Sat w0 G):=fun a w kn s=>by
 have hld:=run_loadVarA (P:=P) (w:=w) (b:=b) (o:=0) ht hl (fun j v hj=>by
  have:=(s.getBlk hk).1
  simp [World.cell?,this,hj])
 have hp:=kn.getD hv
 have hq:=kn.getD hv'
 refine bodyPost_ret (v:=.tuple #[.agg cs.toArray,v']) ?_ kn.defers (h w s)
 have hp':a.tmps[t]?.getD undef = .pointer (some ⟨b,0,none⟩):=by simpa [Array.getD_eq_getD_getElem?] using hp
 have hq':a.tmps[t']?.getD undef = v':=by simpa [Array.getD_eq_getD_getElem?] using hq
 simp [results,hr,hp',hq',asAddr,hld]
end
def FnR (P:Program) (w:World) (v:Value) {α β:Type} (Rel:α→List Value→Prop) (dec:β→Value) (p:α→Option β):Prop :=
  ∃ (f:FuncId) (cs:List Value),v = .func (.func f) #[] cs.toArray∧Ent P f∧∀ x c r w',Rel x c→Ext w w'→p x = some r→Calls P f (c ++ cs).toArray w' fun e w''=>e = .returned (dec r)∧Ext w' w''
section
variable {P:Program} {n:Nat} {fr:Fr} {dst:Option Tmp} {ty:TypeId} {pos:String} {aft:Array Edge} {g:Option (Nat × Bool)} {S:As} {w0:World} {G:List Ch}
theorem Qt.callR {xo:Operand} {xs:List Operand} {ts:Array TypeId} {v:Value} {α β:Type} {Rel:α→List Value→Prop} {dec:β→Value} {p:α→Option β} (hv:ev fr xo = some v) (hf:FnR P w0 v Rel dec p) (hs:∀ w,S w→Ext w0 w) {x:α} {r:β} (hr:p x = some r) {c:List Value} (hx:evs fr xs = some c) (hc:Rel x c) :
  Qt P n ⟨dst,.call { callee:=.value xo,args:=xs.toArray,argTypes:=ts },ty,pos,aft,g⟩ fr S (dec r):=fun a w k s=>by
 obtain ⟨f,cs,rfl,he,hcc⟩:=hf
 rw [run_enterV he hv hx k]
 have:=hcc x c r w hc (hs w s) hr
 rw [show c.toArray ++ cs.toArray = (c ++ cs).toArray by simp]
 exact ⟨Ext.refl w,this⟩
end
end Go.Vg
set_option linter.unusedVariables false
set_option linter.unusedSectionVars false
namespace Go.Vg
open Go
theorem sj {α : Type} {a b : α} (h : some a = some b) : a = b := Option.some.inj h
section
variable {P : Program} {n : Nat} {ops : Array Oper} {Q : Po} {o : Oper} {rest : List Oper} {fr : Fr} {S : As}
theorem rp {v : Value} (h : Pu P n o fr v) (hr : RS P n ops Q rest (putF o.dst v fr) S) (hg : gval ops fr o.guard = some true := by rfl) (hd : dOk n o.dst = true := by rfl) : RS P n ops Q (o :: rest) fr S := RS.p h hg hd hr
theorem rq {v : Value} {w0 : World} {G : List Ch} (h : Qt P n o fr (Sat w0 G) v) (hr : RS P n ops Q rest (putF o.dst v fr) (Sat w0 G)) (hg : gval ops fr o.guard = some true := by rfl) (hd : dOk n o.dst = true := by rfl) : RS P n ops Q (o :: rest) fr (Sat w0 G) := RS.q h hg hd hr
theorem ro (hr : RS P n ops Q rest (putF o.dst undef fr) S) (hg : gval ops fr o.guard = some false := by rfl) (hd : dOk n o.dst = true := by rfl) : RS P n ops Q (o :: rest) fr S := RS.no hg hd hr
variable {dst : Option Tmp} {ty : TypeId} {pos : String} {aft : Array Edge} {g : Option (Nat × Bool)}
theorem rM {x : Operand} {v : Value} (h : ev fr x = some v) (hr : RS P n ops Q rest (putF dst v fr) S) (hg : gval ops fr g = some true := by rfl) (hd : dOk n dst = true := by rfl) : RS P n ops Q (⟨dst, .move x, ty, pos, aft, g⟩ :: rest) fr S := RS.p (Pu.move h) hg hd hr
theorem rA {x : Operand} {v : Value} (h : ev fr x = some v) (hr : RS P n ops Q rest (putF dst v fr) S) (hg : gval ops fr g = some true := by rfl) (hd : dOk n dst = true := by rfl) : RS P n ops Q (⟨dst, .assign x, ty, pos, aft, g⟩ :: rest) fr S := RS.p (Pu.assign h) hg hd hr
end
section
variable {P : Program} {n : Nat} {ops : Array Oper} {Q : Po} {full : List (Nat × Kd)} {plan : List (Nat × Kd)} {fr : Fr}
theorem dp {i : Nat} {o : Oper} {v : Value} {w0 : World} {G : List Ch} (hi : ops[i]? = some o) (h : Pu P n o fr v) (hr : RD P n ops Q full (fun _ => True) plan (putF o.dst v fr) (Sat w0 G)) (hg : gval ops fr o.guard = some true := by rfl) (hd : dOk n o.dst = true := by rfl) : RD P n ops Q full (fun _ => True) ((i, .pu) :: plan) fr (Sat w0 G) := RD.p (fun _ _ => trivial) hi h hg hd hr
theorem dq {i : Nat} {o : Oper} {v : Value} {w0 : World} {G : List Ch} (hi : ops[i]? = some o) (h : Qt P n o fr (Sat w0 G) v) (hr : RD P n ops Q full (fun _ => True) plan (putF o.dst v fr) (Sat w0 G)) (hg : gval ops fr o.guard = some true := by rfl) (hd : dOk n o.dst = true := by rfl) : RD P n ops Q full (fun _ => True) ((i, .rd) :: plan) fr (Sat w0 G) := RD.q (fun _ _ => trivial) hi h hg hd hr
theorem dn {i : Nat} {o : Oper} {w0 : World} {G : List Ch} {k : Kd} (hi : ops[i]? = some o) (hr : RD P n ops Q full (fun _ => True) plan (putF o.dst undef fr) (Sat w0 G)) (hk : k = .pu ∨ k = .wk ∨ k = .rd := by decide) (hg : gval ops fr o.guard = some false := by rfl) (hd : dOk n o.dst = true := by rfl) : RD P n ops Q full (fun _ => True) ((i, k) :: plan) fr (Sat w0 G) := RD.no (fun _ _ => trivial) hi hg hd hk hr
end
section
variable {P : Program} {n : Nat} {fr : Fr} {S : As} {Q : Po}
theorem cq {c : Code} (fr' : Fr) (h : T P n c fr' S Q) (hf : Vg.Sub fr fr' := by (repeat (first | exact trivial | refine ⟨rfl, ?_⟩))) : T P n c fr S Q := T.conseq h hf fun _ s => s
end
end Go.Vg
