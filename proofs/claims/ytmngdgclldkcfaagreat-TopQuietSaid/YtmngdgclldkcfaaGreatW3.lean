/-
  Texts of one's own, joined: VP VT VU VW VS VX V9 VY V5 V1 V2 V3 V4 V7 V8 WC WB WE WA WF.
-/
import Derived.Test.YtmngdgclldkcfaaGreatW2
import Derived.Laws.LoneSync
import Derived.MapKept
import Derived.Laws.Shifts
import Derived.Laws.Externs
import Derived.RangeFuncIn
import Derived.RangeFuncRecord
import Derived.RangeFuncLeaves
import Derived.TacticsIn
import Derived.OrdersIn
import Derived.Sort.LoopGhostIn
import Derived.ArgAppend
set_option linter.unusedVariables false
namespace Go.Vg
theorem bsome {α β:Type} {a:α} {k:α→Option β}:Option.bind (some a) k = k a:=rfl
theorem Ok.some {α:Type} {m:Option α} {a:α} (h:m = some a):Ok m (fun x=>x = a):=⟨a,h,rfl⟩
section
variable {α:Type} [Inhabited α]
theorem take_nextV {s:List α} {i:Int} (h:0 ≤ i∧i < s.length):s.take (i + 1).toNat = s.take i.toNat ++ [gi s i]:=by
  have hl:i.toNat < s.length:=by omega
  rw [show (i + 1).toNat = i.toNat + 1 by omega,List.take_succ_eq_append_getElem hl]
  simp [gi,List.getD,List.getElem?_eq_getElem hl]
def eqF [DecidableEq α] (a b:List α):Option Bool :=
  if ¬ (a.length:Int) = (b.length:Int) then
  some false
  else
  Option.bind (α:=Ex (Unit) (Bool)) (loop (σ:=Int) (β:=Ex (Unit) (Bool)) (fun v3 =>
  if v3 < (a.length:Int) then
  if 0 ≤ v3∧v3 < (a.length:Int) then
  if 0 ≤ v3∧v3 < (b.length:Int) then
  if ¬ (gi a v3) = (gi b v3) then
  some (St.done (Ex.up false))
  else
  if I64 (v3 + 1) then
  some (St.next (v3 + 1))
  else none
  else none
  else none
  else
  some (St.done (Ex.go ()))) 0) fun x=>x.then fun _ =>
  some true
theorem eqF_eq [DecidableEq α] {a b:List α} (ha:a.length ≤ 9223372036854775807):eqF a b = some (decide (a = b)):=by
  unfold eqF
  refine Ok.eq (Ok.ite (fun hn=>Ok.ret (decide_eq_false (fun e=>hn (by rw [e]))).symm) (fun hn=>?_))
  have hl:a.length = b.length:=by omega
  refine Ok.bind (R:=fun x=>x = if a = b then Ex.go () else Ex.up false) (Ok.loop (fun i:Int=>0 ≤ i∧i ≤ a.length∧∀ j:Int,0 ≤ j→j < i→gi a j = gi b j) (fun i=>(a.length - i).toNat) ⟨by omega,by omega,fun j h0 h1=>by omega⟩ (by unfold FUEL; omega) ?_) ?_
  · rintro i ⟨h0,h1,hq⟩
    refine Ok.ite (fun hlt=>?_) (fun hlt=>Ok.ret ?_)
    · refine Ok.gd ⟨h0,hlt⟩ (Ok.gd ⟨h0,by omega⟩ (Ok.ite (fun hne=>Ok.ret ?_) (fun he=>Ok.gd (by unfold I64; omega) (Ok.ret ?_))))
      · show Ex.up false = _
        rw [if_neg (fun e=>hne (by rw [e]))]
      · refine ⟨⟨by omega,by omega,fun j j0 j1=>?_⟩,by omega⟩
        by_cases hj:j = i
        · subst hj; exact Decidable.not_not.1 he
        · exact hq j j0 (by omega)
    · show Ex.go () = _
      rw [if_pos (ext_gi hl fun j j0 j1=>hq j j0 (by omega))]
  · rintro x rfl
    by_cases hab:a = b
    · rw [if_pos hab]; exact Ok.ret (by rw [decide_eq_true hab])
    · rw [if_neg hab]; exact Ok.ret (by rw [decide_eq_false hab])
end
section
variable {α:Type}
end
end Go.Vg
set_option linter.unusedSimpArgs false
set_option linter.unusedVariables false
namespace Go.Vg
open Enc (R)
section
variable {P:Program} {n:Nat} {fr:Fr} {dst:Option Tmp} {ty:TypeId} {pos:String} {aft:Array Edge} {g:Option (Nat × Bool)} {w0:World} {G:List Ch}
end
end Go.Vg
set_option linter.unusedSimpArgs false
set_option linter.unusedVariables false
namespace Go.Vg
end Go.Vg
set_option linter.unusedSimpArgs false
set_option linter.unusedVariables false
namespace Go.Vg
open Enc (R)
open Go.RowKit (Below)
section
variable {w0 w:World} {G:List Ch}
end
section
variable {P:Program} {n:Nat} {fr:Fr} {dst:Option Tmp} {ty:TypeId} {pos:String} {aft:Array Edge} {g:Option (Nat × Bool)} {S:As} {w0:World} {G:List Ch} {Q:Po}
end
end Go.Vg
set_option linter.unusedVariables false
namespace Go.Vg
def Bo (m:Option Bool) (p:Prop):Prop:=Ok m fun r=>(r = true ↔ p)
theorem Bo.dec {q p:Prop} [Decidable q] (h:q ↔ p):Bo (some (decide q)) p:=Ok.ret (by rw [decide_eq_true_iff]; exact h)
theorem Bo.t {m:Option Bool} {p:Prop} (h:Bo m p) (hp:p):m = some true:=let ⟨r,e,q⟩:=h; by rw [e,q.2 hp]
theorem Bo.f {m:Option Bool} {p:Prop} (h:Bo m p) (hp:¬ p):m = some false:=by
  obtain ⟨r,e,q⟩:=h
  rw [e]
  cases r with
  | false=>rfl
  | true=>exact absurd (q.1 rfl) hp
theorem Bo.iff {m:Option Bool} {p q:Prop} (h:Bo m p) (k:p ↔ q):Bo m q:=Ok.mono h fun r e=>e.trans k
theorem scanOk {β:Type} {f:Int→Option (St Int (Ex Unit β))} {a n:Int} (G:Int→Prop) (U:β→Prop) (hn:n - a < 9223372036854775808)
    (step:∀ v,a ≤ v→v < n→(∀ u,a ≤ u→u < v→G u)→Ok (f v) fun y=>match y with | .next s=>s = v + 1∧G v | .done (.up r)=>U r | .done (.go _)=>False)
    (fin:∀ v,a ≤ v→n ≤ v→f v = some (St.done (Ex.go ()))):Ok (loop f a) fun x=>match x with | .go _=>∀ u,a ≤ u→u < n→G u | .up r=>U r:=by
  refine Ok.loop (fun v=>a ≤ v∧∀ u,a ≤ u→u < v→u < n→G u) (fun v=>(n - v).toNat) ⟨Int.le_refl _,fun u h1 h2=>by omega⟩ (by unfold FUEL; omega) ?_
  rintro v ⟨h1,h2⟩
  by_cases hv:v < n
  · obtain ⟨y,hy,hq⟩:=step v h1 hv (fun u u0 u1=>h2 u u0 u1 (by omega))
    refine ⟨y,hy,?_⟩
    cases y with
    | next s =>
      obtain ⟨rfl,hg⟩:=hq
      refine ⟨⟨by omega,fun u u0 u1 u2=>?_⟩,by omega⟩
      by_cases e:u = v
      · subst e; exact hg
      · exact h2 u u0 (by omega) u2
    | done x =>
      cases x with
      | go _=>exact hq.elim
      | up r=>exact hq
  · rw [fin v h1 (by omega)]
    exact Ok.ret (fun u u0 u1=>h2 u u0 (by omega) u1)
theorem scanBo {f:Int→Option (St Int (Ex Unit Bool))} {a n:Int} (G:Int→Prop) (hn:n - a < 9223372036854775808)
    (step:∀ v,a ≤ v→v < n→(∀ u,a ≤ u→u < v→G u)→Ok (f v) fun y=>match y with | .next s=>s = v + 1∧G v | .done (.up r)=>r = false∧¬ G v | .done (.go _)=>False)
    (fin:∀ v,a ≤ v→n ≤ v→f v = some (St.done (Ex.go ()))):Bo (Option.bind (loop f a) fun x=>x.then fun _=>some true) (∀ u,a ≤ u→u < n→G u):=by
  refine Ok.bind (scanOk G (fun r=>r = false∧¬ ∀ u,a ≤ u→u < n→G u) hn (fun v h1 h2 h3=>?_) fin) (fun x hx=>?_)
  · obtain ⟨y,hy,hq⟩:=step v h1 h2 h3
    refine ⟨y,hy,?_⟩
    cases y with
    | next s=>exact hq
    | done x =>
      cases x with
      | go _=>exact hq
      | up r=>exact ⟨hq.1,fun h=>hq.2 (h v h1 h2)⟩
  · cases x with
    | go _=>exact Ok.ret ⟨fun _=>hx,fun _=>rfl⟩
    | up r=>exact Ok.ret ⟨fun e=>(by rw [hx.1] at e; cases e),fun h=>absurd h hx.2⟩
theorem gi_mem2 {α:Type} [Inhabited α] {l:List α} {x:α}:x ∈ l ↔ ∃ i:Int,0 ≤ i∧i < l.length∧gi l i = x:=by
  constructor
  · intro h
    obtain ⟨i,hi,he⟩:=List.mem_iff_getElem.1 h
    exact ⟨i,by omega,by omega,by simp [gi,List.getD,hi,he]⟩
  · rintro ⟨i,h0,h1,rfl⟩
    exact gi_mem ⟨h0,h1⟩
end Go.Vg
set_option linter.unusedSimpArgs false
set_option linter.unusedVariables false
namespace Go.Vg
open Go.RowKit (Below)
open Enc (R)

class Deep (α:Type) [Enc α] where
  D:Hp→α→List Value→Prop
  toR:∀ {h x c},D h x c→R h x c
  mono:∀ {h h' x c},h.le h'→D h x c→D h' x c

theorem star_mono {A B:Ch} {h h':Hp} (hl:h.le h'):star A B h→star A B h':=fun ⟨p,q,a,b,c,d,e⟩=>⟨p,q,a,b,c,Hp.le_trans d hl,Hp.le_trans e hl⟩
theorem stars_mono:∀ {L:List Ch} {h h':Hp},h.le h'→stars L h→stars L h'
  | [],_,_,_,_=>trivial
  | _ :: _,_,_,hl,s=>star_mono hl s

section
variable {α:Type} [Enc α] [Deep α]
def DRF:Hp→List α→List Value→Prop
  | _,[],cs=>cs = []
  | h,x :: xs,cs=>∃ c r p q,cs = c ++ r∧Deep.D p x c∧DRF q xs r∧(∀ b,p b = none ∨ q b = none)∧Hp.le p h∧Hp.le q h
theorem DRF.mono {h h':Hp} (hl:h.le h'):∀ {xs:List α} {cs:List Value},DRF h xs cs→DRF h' xs cs
  | [],_,e=>e
  | _ :: _,_,⟨c,r,p,q,e,a,b,d,l1,l2⟩=>⟨c,r,p,q,e,a,b,d,Hp.le_trans l1 hl,Hp.le_trans l2 hl⟩
theorem DRF.toRF {h:Hp}:∀ {xs:List α} {cs:List Value},DRF h xs cs→RF h xs cs
  | [],_,e=>e
  | _ :: _,_,⟨c,r,p,q,e,a,b,d,l1,l2⟩=>⟨c,r,e,Enc.mono l1 (Deep.toR a),(DRF.toRF b).mono l2⟩
theorem DRF.append {q:Hp} {ys:List α} {ds:List Value} (hy:DRF q ys ds):∀ {xs:List α} {cs:List Value} {p r:Hp},DRF p xs cs→(∀ b,p b = none ∨ q b = none)→p.le r→q.le r→DRF r (xs ++ ys) (cs ++ ds)
  | [],_,p,r,e,_,_,l=>by rw [show _ = [] from e]; exact hy.mono l
  | x :: xs,_,p,r,⟨c,t,p1,q1,e,a,b,d,l1,l2⟩,ha,hp,hq=>by
    subst e
    have hu1:q1.le (q1.over q):=Hp.le_over q1 q
    have hu2:q.le (q1.over q):=fun k o ho=>by
      unfold Hp.over
      cases hk:q1 k with
      | none=>exact ho
      | some o' =>
        have h1:=l2 k o' hk
        rcases ha k with h | h
        · rw [h] at h1; cases h1
        · rw [h] at ho; cases ho
    have ih:=DRF.append (r:=q1.over q) hy b (fun k=>by
      rcases ha k with h | h
      · cases hk:q1 k with
        | none=>exact .inl rfl
        | some o=>have:=l2 k o hk; rw [h] at this; cases this
      · exact .inr h) hu1 hu2
    refine ⟨c,t ++ ds,p1,q1.over q,by simp,a,ih,fun k=>?_,Hp.le_trans l1 hp,Hp.over_le (Hp.le_trans l2 hp) hq⟩
    rcases d k with h | h
    · exact .inl h
    · cases hk:p1 k with
      | none=>exact .inl rfl
      | some o =>
        have h1:=l1 k o hk
        refine .inr ?_
        unfold Hp.over
        rw [h]
        rcases ha k with h2 | h2
        · rw [h2] at h1; cases h1
        · exact h2
theorem DRF.cons' {A B:Ch} {x:α} {xs:List α} {c r:List Value} (hA:∀ p,A p→Deep.D p x c) (hB:∀ q,B q→DRF q xs r):∀ h,star A B h→DRF h (x :: xs) (c ++ r) :=
  fun _ ⟨p,q,a,b,d,l1,l2⟩=>⟨c,r,p,q,rfl,hA p a,hB q b,d,l1,l2⟩
theorem DRF.nil':∀ h,stars [] h→DRF h ([]:List α) []:=fun _ _=>rfl
theorem DRF.set {h:Hp}:∀ {xs:List α} {cs:List Value} {i:Nat} {x x1:α} (f s:Nat) {us:List Value},DRF h xs cs→xs[i]? = some x→us.length = s→f + s ≤ Enc.sz α→(∀ p c,Deep.D p x c→Deep.D p x1 (c.take f ++ us ++ c.drop (f + s))) →
    DRF h (xs.set i x1) (cs.take (i * Enc.sz α + f) ++ us ++ cs.drop (i * Enc.sz α + f + s))
  | [],_,i,x,x1,f,s,us,_,hi,_,_,_=>by simp at hi
  | y :: xs,_,0,x,x1,f,s,us,⟨c,r,p,q,e,a,b,d,l1,l2⟩,hi,hus,hf,hn=>by
    simp at hi; subst hi; subst e
    have hc:c.length = Enc.sz α:=Enc.len (Deep.toR a)
    refine ⟨_,r,p,q,?_,hn p c a,b,d,l1,l2⟩
    rw [Nat.zero_mul,Nat.zero_add,List.take_append_of_le_length (by omega),List.drop_append_of_le_length (by omega),List.append_assoc]
    simp
  | y :: xs,_,i + 1,x,x1,f,s,us,⟨c,r,p,q,e,a,b,d,l1,l2⟩,hi,hus,hf,hn=>by
    subst e
    have hc:c.length = Enc.sz α:=Enc.len (Deep.toR a)
    have ih:=DRF.set (x:=x) (x1:=x1) f s b (i:=i) (by simpa using hi) hus hf hn
    refine ⟨c,_,p,q,?_,a,ih,d,l1,l2⟩
    have e1:(i + 1) * Enc.sz α + f = c.length + (i * Enc.sz α + f):=by rw [hc,Nat.add_mul]; omega
    have e2:(i + 1) * Enc.sz α + f + s = c.length + (i * Enc.sz α + f + s):=by rw [hc,Nat.add_mul]; omega
    rw [e2,e1,List.take_append,List.drop_append,Nat.add_sub_cancel_left,Nat.add_sub_cancel_left,List.take_of_length_le (by omega),List.drop_of_length_le (by omega)]
    simp
end
def FB {α:Type} [Enc α] (B:Hp):Hp→List α→List Value→Prop:=fun h xs cs=>RF (h.over B) xs cs
def FH {α:Type} [Enc α] (H:Hp):Hp→List α→List Value→Prop:=fun h xs cs=>H.le h∧RF h xs cs

class PhM {α:Type} [Enc α] (w0:World) (Φ:Hp→List α→List Value→Prop):Prop where
  mono:∀ {h h':Hp} {xs:List α} {cs:List Value},h.le h'→(∀ b o,h' b = some o→w0.heap.size ≤ b)→Φ h xs cs→Φ h' xs cs
class Ph {α:Type} [Enc α] (w0:World) (Φ:Hp→List α→List Value→Prop):Prop extends PhM w0 Φ where
  rd:∀ {w:World} {h:Hp} {xs:List α} {cs:List Value},Ext w0 w→h.le (hpOf w)→Φ h xs cs→RF (hpOf w) xs cs
instance {α:Type} [Enc α] [Deep α] {w0:World}:Ph w0 (DRF (α:=α)):={ mono:=fun hl _ d=>d.mono hl,rd:=fun _ hl d=>d.toRF.mono hl }
instance {α:Type} [Enc α] {w0:World}:Ph w0 (FB (α:=α) (hpOf w0)) :=
  { mono:=fun hl hb d=>RF.mono (Hp.over_mono' hl fun b o e=>by
      have h2:=lt_of_hp e
      rename_i h h' xs cs
      cases hk:h' b with
      | none=>rfl
      | some o'=>have h1:=hb b o' hk; omega) d,rd:=fun he hl d=>RF.mono (Hp.over_le hl he.hp) d }
instance {α:Type} [Enc α] {w0:World} {H:Hp}:Ph w0 (FH (α:=α) H):={ mono:=fun hl _ d=>⟨Hp.le_trans d.1 hl,d.2.mono hl⟩,rd:=fun _ hl d=>d.2.mono hl }

def rowG {α:Type} [Enc α] (Φ:Hp→List α→List Value→Prop) (e:TypeId) (v:Value) (xs:List α):Ch:=fun h =>
  (v = .slice none 0 0∧xs = []∧Φ h [] []) ∨
  ∃ g cap cs sp,v = .slice (some ⟨g,0,none⟩) xs.length cap∧h g = some (.cells (cs ++ sp).toArray e (0,0))∧xs.length ≤ cap∧cap ≤ maxLen∧(cs ++ sp).length = cap * Enc.sz α∧Φ (h.off g) xs cs
abbrev drow {α:Type} [Enc α] [Deep α] (e:TypeId) (v:Value) (xs:List α):Ch:=rowG DRF e v xs

theorem Hp.off_mono {h h':Hp} (hl:h.le h') (g:Nat):(h.off g).le (h'.off g):=fun b o e=>by
  unfold Hp.off at e ⊢
  split at e
  · cases e
  · rename_i hb; rw [if_neg hb]; exact hl b o e
theorem RFrow {α:Type} [Enc α] {h:Hp} {g cap:Nat} {cs sp:List Value} {e:TypeId} {xs:List α} (h2:h g = some (.cells (cs ++ sp).toArray e (0,0))) (h3:xs.length ≤ cap) (h4:cap ≤ maxLen) (h6:RF h xs cs):R h xs [.slice (some ⟨g,0,none⟩) xs.length cap] :=
  ⟨_,cap,rfl,h3,h4,.inr ⟨g,0,cs,rfl,h6,⟨_,e,_,h2,fun j v hj=>by
    rw [Nat.zero_add,List.getElem?_toArray,List.getElem?_append_left (List.getElem?_eq_some_iff.1 hj).1]
    exact hj⟩⟩⟩
theorem row_R {α:Type} [Enc α] {e:TypeId} {v:Value} {xs:List α} {h:Hp}:row nilH e v xs h→R h xs [v]
  | .inl ⟨h1,h2⟩=>by subst h1; subst h2; exact ⟨none,0,rfl,by simp,by simp,.inl rfl⟩
  | .inr ⟨g,cap,cs,sp,h1,h2,h3,h4,h5,h6⟩=>by subst h1; exact RFrow h2 h3 h4 (h6.mono (Hp.over_le (Hp.off_le _ _) (nilH_le _)))
theorem drow_R {α:Type} [Enc α] [Deep α] {e:TypeId} {v:Value} {xs:List α} {h:Hp}:drow e v xs h→R h xs [v]
  | .inl ⟨h1,h2,_⟩=>by subst h1; subst h2; exact ⟨none,0,rfl,by simp,by simp,.inl rfl⟩
  | .inr ⟨g,cap,cs,sp,h1,h2,h3,h4,h5,h6⟩=>by subst h1; exact RFrow h2 h3 h4 (h6.toRF.mono (Hp.off_le _ _))
theorem row_some' {α:Type} [Enc α] {e:TypeId} {q:Option Nat × Nat} {m:Nat} {xs:List α} {h:Hp} (hr:R h xs [rowV q m]) (hne:0 < xs.length):∃ g cap,q = (some g,cap):=by
  obtain ⟨p,cap,e,_,_,s⟩:=hr
  rcases s with rfl | ⟨b,o,cs,rfl,_⟩
  · simp at hne
  · obtain ⟨o',c⟩:=q
    cases o' with
    | none=>simp [rowV] at e
    | some g'=>exact ⟨g',c,rfl⟩

section
variable {w0 w:World} {G:List Ch} {α:Type} [Enc α] {Φ:Hp→List α→List Value→Prop}
theorem rowG_fits {e:TypeId} {q:Option Nat × Nat} {m:Nat} {xs:List α} {p:Hp} (hp:rowG Φ e (rowV q m) xs p):m = xs.length∧m ≤ q.2∧q.2 ≤ maxLen:=by
  rcases hp with ⟨hv,rfl,_⟩ | ⟨g,cap,cs,sp,hv,_,hle,hm,_⟩
  · simp only [rowV,Value.slice.injEq] at hv
    obtain ⟨_,rfl,h2⟩:=hv
    rw [h2]; exact ⟨rfl,Nat.le_refl _,Nat.zero_le _⟩
  · simp only [rowV,Value.slice.injEq] at hv
    obtain ⟨_,rfl,h2⟩:=hv
    rw [h2]; exact ⟨rfl,hle,hm⟩
theorem Sat.row_fitsG {k m:Nat} {e:TypeId} {q:Option Nat × Nat} {xs:List α} (h:Sat w0 G w) (hk:G[k]? = some (rowG Φ e (rowV q m) xs)):m = xs.length∧m ≤ q.2∧q.2 ≤ maxLen:=by
  obtain ⟨p,hp,_⟩:=h.get k hk
  exact rowG_fits hp
theorem Sat.row_someG {k m:Nat} {e:TypeId} {q:Option Nat × Nat} {xs:List α} (h:Sat w0 G w) (hk:G[k]? = some (rowG Φ e (rowV q m) xs)) (hne:0 < xs.length):∃ g cap,q = (some g,cap):=by
  obtain ⟨p,hp,_⟩:=h.get k hk
  rcases hp with ⟨_,rfl,_⟩ | ⟨g,cap,cs,sp,hv,_⟩
  · simp at hne
  · obtain ⟨o,c⟩:=q
    cases o with
    | none=>simp [rowV] at hv
    | some g'=>exact ⟨g',c,rfl⟩
theorem Sat.getRowG [Ph w0 Φ] {k:Nat} {e:TypeId} {v:Value} {xs:List α} (h:Sat w0 G w) (hk:G[k]? = some (rowG Φ e v xs)):R (hpOf w) xs [v]:=by
  obtain ⟨p,hp,hl,hb⟩:=h.get k hk
  rcases hp with ⟨rfl,rfl,_⟩ | ⟨g,cap,cs,sp,rfl,hg,hle,hm,hlen,hr⟩
  · exact ⟨none,0,rfl,by simp,by simp,.inl rfl⟩
  · exact RFrow (hl _ _ hg) hle hm (Ph.rd (w0:=w0) h.ext (Hp.le_trans (Hp.off_le _ _) hl) hr)
theorem Rd.ofG [Ph w0 Φ] (k:Nat) {e:TypeId} {v:Value} {xs:List α} (hk:G[k]? = some (rowG Φ e v xs)):Rd (Sat w0 G) xs [v]:=fun w s=>s.getRowG hk
theorem Sat.relenG {e:TypeId} {q:Option Nat × Nat} {m:Nat} {xs:List α} (k:Nat) (h:Sat w0 G w) (hk:G[k]? = some (rowG Φ e (rowV q m) xs)):Sat w0 (G.set k (rowG Φ e (rowV q xs.length) xs)) w :=
  h.weaken k hk _ fun p hp=>by rw [← (rowG_fits hp).1]; exact hp
theorem Sat.nilRowG [Deep α] (e:TypeId) (h:Sat w0 G w):Sat w0 (G ++ [drow e (rowV (none,0) 0) ([]:List α)]) w:=h.addEmpty _ (fun p=>.inl ⟨rfl,rfl,rfl⟩)
def fz (h:Hp):Ch:=fun p=>p = h
def Held (S:As) (H:Hp):Prop:=∀ w,S w→H.le (hpOf w)
theorem Held.base:Held (Sat w0 G) (hpOf w0):=fun w s=>s.ext.hp
theorem Held.fz {h:Hp} (k:Nat) (hk:G[k]? = some (fz h)):Held (Sat w0 G) h:=fun w s=>by
  obtain ⟨p,hp,hl,_⟩:=s.get k hk
  rw [← show p = h from hp]; exact hl
theorem Held.over {S:As} {A B:Hp} (a:Held S A) (b:Held S B):Held S (A.over B):=fun w s=>Hp.over_le (a w s) (b w s)
theorem Sat.freeze (k:Nat) {C:Ch} (hk:G[k]? = some C) (s:Sat w0 G w):∃ h,C h∧Sat w0 (G.set k (fz h)) w:=by
  obtain ⟨h1,own,h2⟩:=s
  have hli:k < G.length:=(List.getElem?_eq_some_iff.1 hk).1
  obtain ⟨p,hp,hb⟩:=h2 k C hk
  refine ⟨p,hp,h1,own,fun j D hj=>?_⟩
  by_cases hjk:k = j
  · subst hjk
    rw [List.getElem?_set_self hli] at hj
    exact ⟨p,by have:=Option.some.inj hj; subst this; rfl,hb⟩
  · rw [List.getElem?_set_ne hjk] at hj
    exact h2 j D hj
theorem Sat.thaw {h:Hp} {C:Ch} (hz:C h) (k:Nat) (hk:G[k]? = some (fz h)) (s:Sat w0 G w):Sat w0 (G.set k C) w:=s.weaken k hk C fun p e=>by rw [show p = h from e]; exact hz
theorem Rd.held {S:As} {H:Hp} (hh:Held S H) {β:Type} [Enc β] {x:β} {cs:List Value} (hr:R H x cs):Rd S x cs:=fun w s=>Enc.mono (hh w s) hr
theorem Rd.ofFz {h:Hp} (k:Nat) (hk:G[k]? = some (fz h)) {β:Type} [Enc β] {x:β} {cs:List Value} (hr:R h x cs):Rd (Sat w0 G) x cs:=Rd.held (Held.fz k hk) hr
end
section
variable {P:Program} {n:Nat} {fr:Fr} {S:As} {Q:Po}
theorem RS.exP {ops:Array Oper} {l:List Oper} {ι:Type} {p:ι→Prop} {S':ι→As} (hp:∀ w,S w→∃ i,p i∧S' i w) (h:∀ i,p i→RS P n ops Q l fr (S' i)):RS P n ops Q l fr S:=fun a w k s=>let ⟨i,h1,s'⟩:=hp w s; h i h1 a w k s'
theorem T.exP {c:Code} {ι:Type} {p:ι→Prop} {S':ι→As} (hp:∀ w,S w→∃ i,p i∧S' i w) (h:∀ i,p i→T P n c fr (S' i) Q):T P n c fr S Q:=fun a w k s=>let ⟨i,h1,s'⟩:=hp w s; h i h1 a w k s'
end

def pc (p:Prop):Ch:=fun _=>p
theorem Sat.addPc {w0 w:World} {G:List Ch} {p:Prop} (s:Sat w0 G w) (hp:p):Sat w0 (G ++ [pc p]) w:=s.addEmpty _ fun _=>hp
theorem Sat.getPc {w0 w:World} {G:List Ch} {p:Prop} (k:Nat) (s:Sat w0 G w) (hk:G[k]? = some (pc p)):p:=by
  obtain ⟨q,hq,_⟩:=s.get k hk
  exact hq
theorem Sat.merge2 {w0 w:World} {G:List Ch} {A B:Ch} (k j:Nat) (hk:G[k]? = some A) (hj:G[j]? = some B) (hne:k ≠ j) (C:Ch) (hc:∀ p q r:Hp,A p→B q→(∀ b,p b = none ∨ q b = none)→p.le r→q.le r→C r) (s:Sat w0 G w) :
    Sat w0 ((G.set k C).set j dead) w:=by
  obtain ⟨h1,own,h2⟩:=s
  obtain ⟨p,hp,hb⟩:=h2 k A hk
  obtain ⟨q,hq,hbq⟩:=h2 j B hj
  have hkl:=(List.getElem?_eq_some_iff.1 hk).1
  have hjl:=(List.getElem?_eq_some_iff.1 hj).1
  refine ⟨h1,fun b=>if own b = j then k else own b,fun i E hi=>?_⟩
  have hd:∀ b,p b = none ∨ q b = none:=fun b=>by
    cases e:p b with
    | none=>exact .inl rfl
    | some o =>
      cases e':q b with
      | none=>exact .inr rfl
      | some o'=>have h3:=(hb b o e).2.1; have h4:=(hbq b o' e').2.1; omega
  by_cases hij:j = i
  · subst hij
    rw [List.getElem?_set_self (by simpa using hjl)] at hi
    exact ⟨fun _=>none,by rw [← Option.some.inj hi]; trivial,fun b o e=>by cases e⟩
  · rw [List.getElem?_set_ne hij] at hi
    by_cases hik:k = i
    · subst hik
      rw [List.getElem?_set_self hkl] at hi
      have:=(Option.some.inj hi).symm; subst this
      refine ⟨p.over q,hc p q _ hp hq hd (Hp.le_over p q) (fun b o e=>?_),fun b o e=>?_⟩
      · unfold Hp.over
        rcases hd b with h | h
        · rw [h]; exact e
        · rw [h] at e; cases e
      · unfold Hp.over at e
        split at e
        · rename_i o' e'; cases e
          obtain ⟨a1,a2,a3⟩:=hb b _ e'
          exact ⟨a1,by simp [a2,hne],a3⟩
        · obtain ⟨a1,a2,a3⟩:=hbq b _ e
          exact ⟨a1,by simp [a2],a3⟩
    · rw [List.getElem?_set_ne hik] at hi
      obtain ⟨u,hu,hbu⟩:=h2 i E hi
      refine ⟨u,hu,fun b o e=>?_⟩
      obtain ⟨a1,a2,a3⟩:=hbu b o e
      exact ⟨a1,by show (if own b = j then k else own b) = i; rw [a2,if_neg (fun h=>hij h.symm)],a3⟩
theorem Sat.starAt {w0 w:World} {G:List Ch} {A B:Ch} (k j:Nat) (s:Sat w0 G w) (hk:G[k]? = some A) (hj:G[j]? = some B) (hne:k ≠ j):Sat w0 ((G.set k (star A B)).set j dead) w :=
  s.merge2 k j hk hj hne _ fun p q r a b c d e=>⟨p,q,a,b,c,d,e⟩
theorem Sat.noStars {w0 w:World} {G:List Ch} (s:Sat w0 G w):Sat w0 (G ++ [stars []]) w:=s.addEmpty _ fun _=>trivial

section
variable {P:Program} {n:Nat} {fr:Fr} {dst:Option Tmp} {ty:TypeId} {pos:String} {aft:Array Edge} {g:Option (Nat × Bool)} {S:As} {w0:World} {G:List Ch}
def rowAndG {α:Type} [Enc α] (Φ:Hp→List α→List Value→Prop) (e:TypeId) (v:Value) (xs ys:List α) (news:List Value):Ch:=fun h =>
  (v = .slice none 0 0∧xs = []∧Φ h ys news) ∨
  ∃ g cap cs sp,v = .slice (some ⟨g,0,none⟩) xs.length cap∧h g = some (.cells (cs ++ sp).toArray e (0,0))∧xs.length ≤ cap∧cap ≤ maxLen∧(cs ++ sp).length = cap * Enc.sz α∧cs.length = xs.length * Enc.sz α∧Φ (h.off g) (xs ++ ys) (cs ++ news)
theorem Sat.appendG {α:Type} [Enc α] {Φ:Hp→List α→List Value→Prop} [PhM w0 Φ] {w:World} (s:Sat w0 G w) {k:Nat} {C:Ch} (hk:G[k]? = some C) {t e ty:TypeId} {by':Nat} {z:Value} {v:Value} {xs ys:List α} {news:List Value}
    (ht:slTy P t = some (e,Enc.sz α,by')) (hz:zeroOf P e = some z) (hzs:z.cells.size = Enc.sz α)
    (hC:∀ p,C p→(∀ b o,p b = some o→w0.heap.size ≤ b)→rowAndG Φ e v xs ys news p) {q:Addr} {m c:Nat} (hm:ys.length = m) (hnews:∀ j u,news[j]? = some u→w.cell? (q.add j) = some u)
    (hnl:news.length = ys.length * Enc.sz α) (hone:∀ u ∈ news,u.oneCell' = true) (hbytes:(xs.length + m) * by' ≤ 140737488355328) (h63:xs.length + m ≤ maxLen) :
    ∃ v' w',(Builtin.append_ #[t,t] ty #[v,.slice (some q) m c]).run P w = .ok v' w'∧Sat w0 (G.set k (rowG Φ e v' (xs ++ ys))) w':=by
  obtain ⟨hu,i,hi,hsz',hby⟩:=slTy_spec ht
  subst hby
  obtain ⟨i',hi',hz'⟩:=Option.bind_eq_some_iff.1 hz
  rw [hi] at hi'; cases hi'
  have h63':((xs.length + m:Nat):Int) ≤ 9223372036854775807:=by unfold maxLen at h63; omega
  subst hm
  have hw0:=s.ext.size
  have hnl':news.length = ys.length * i.size:=by rw [hnl,hsz']
  have fresh:∀ (A:Hp→Hp) (cs:List Value) (cap:Nat),(∀ p,(A p).le p)→cs.length = xs.length * Enc.sz α→(∀ p,C p→p.le (hpOf w)→(∀ b o,p b = some o→w0.heap.size ≤ b)→Φ (A p) (xs ++ ys) (cs ++ news))→xs.length + ys.length ≤ cap→cap ≤ maxLen →
      Sat w0 (G.set k (rowG Φ e (.slice (some ⟨w.heap.size,0,none⟩) (xs ++ ys).length cap) (xs ++ ys))) (w.drew.alloc (.cells (cs.toArray ++ news.toArray ++ Builtin.zeroCells z.cells (cap - (xs.length + ys.length))) e)):=by
    intro A cs cap hA hcl hcs hcap hcm
    refine s.turn k hk _ rfl rfl rfl (by simp) fun p hp hl hb=>?_
    have hxy:=hcs p hp hl hb
    refine ⟨fun b hb' hn=>(Below.heap_alloc w.drew _ b (by simpa using hb')),fun b=>if b = w.heap.size then some (.cells (cs.toArray ++ news.toArray ++ Builtin.zeroCells z.cells (cap - (xs.length + ys.length))) e (0,0)) else p b,.inr ?_,fun b o hbo=>?_⟩
    · refine ⟨w.heap.size,cap,cs ++ news,(Builtin.zeroCells z.cells (cap - (xs.length + ys.length))).toList,rfl,?_,by simpa using hcap,hcm,?_,?_⟩
      · simp
      · simp only [List.length_append,hcl,hnl,Array.length_toList,size_zeroCells,hzs,← Nat.add_mul]
        congr 1
        omega
      · refine PhM.mono (w0:=w0) (h:=A p) (fun b o hbo=>?_) (fun b o hbo=>?_) hxy
        · have hpb:=hA p b o hbo
          have hlt:=lt_of_hp (hl b o hpb)
          unfold Hp.off
          rw [if_neg (by omega)]
          show (if b = w.heap.size then _ else p b) = _
          rw [if_neg (by omega)]; exact hpb
        · unfold Hp.off at hbo
          split at hbo
          · cases hbo
          · rename_i hne
            dsimp only at hbo
            rw [if_neg hne] at hbo
            exact hb b o hbo
    · dsimp only at hbo
      split at hbo
      · rename_i hbw
        subst hbw; cases hbo
        exact ⟨.inr (Nat.le_refl _),heap_alloc_new w.drew _⟩
      · exact ⟨.inl (by rw [hbo]; simp),by rw [Below.heap_alloc w.drew _ b (by simpa using lt_of_hp (hl b o hbo))]; exact hl b o hbo⟩
  obtain ⟨p0,hp0,hl0,hb0⟩:=s.get k hk
  rcases hC p0 hp0 hb0 with ⟨rfl,rfl,hy⟩ | ⟨g,cap,cs,sp,rfl,hgp,hlc,hcm,hlen,hcsl,hxy⟩
  · by_cases hm:ys.length = 0
    · have hys:ys = []:=List.eq_nil_of_length_eq_zero hm
      subst hys
      have hn:news = []:=List.eq_nil_of_length_eq_zero (by simpa using hnl)
      subst hn
      refine ⟨.slice none 0 0,w,?_,?_⟩
      · simp [Builtin.append_,run_underlying hu,sizeOf,typeInfo,hi,Builtin.lenOf,Builtin.firstCells,loadCells,loadCellsFrom]
      · refine ⟨s.1,?_⟩
        obtain ⟨h1,own,h2⟩:=s
        refine ⟨own,fun j E hj=>?_⟩
        by_cases hjk:k = j
        · subst hjk
          rw [List.getElem?_set_self (List.getElem?_eq_some_iff.1 hk).1] at hj
          have:=(Option.some.inj hj).symm; subst this
          obtain ⟨p,hp,hb⟩:=h2 k C hk
          refine ⟨p,?_,hb⟩
          rcases hC p hp (fun b o e=>(hb b o e).1) with ⟨_,_,hy'⟩ | ⟨g,cap,cs,sp,hv,_⟩
          · exact .inl ⟨rfl,rfl,hy'⟩
          · cases hv
        · rw [List.getElem?_set_ne hjk] at hj
          exact h2 j E hj
    · have hr:=run_append_nil (P:=P) w t ty e i z hu hi hz' q ys.length c news hnl' hnews (by omega) (by simpa using h63') (by have hb:=hbytes; simp only [List.length_nil,Nat.zero_add] at hb; omega)
      have hge:=grownCap_ge w ys.length 0 e
      have hle:=grownCap_le_maxLen w ys.length 0 e (by simpa using h63)
      have:=fresh (fun p=>p) [] (grownCap w ys.length 0 e) (fun p=>Hp.le_refl p) (by simp) (fun p hp hl hb=>?_) (by simpa using hge) hle
      · simp only [List.nil_append,List.length_nil,Nat.zero_add,Array.empty_append] at this
        exact ⟨_,_,hr,by simpa using this⟩
      · rcases hC p hp hb with ⟨_,_,hy'⟩ | ⟨g,cap,cs,sp,hv,_⟩
        · exact hy'
        · cases hv
  · have hwg:=hl0 _ _ hgp
    have same:∀ p',C p'→p'.le (hpOf w)→(∀ b o,p' b = some o→w0.heap.size ≤ b)→p' g = some (.cells (cs ++ sp).toArray e (0,0))∧Φ (p'.off g) (xs ++ ys) (cs ++ news):=fun p' hp' hl' hb'=>by
      rcases hC p' hp' hb' with ⟨hv,_,_⟩ | ⟨g',cap',cs',sp',hv,hgp',hlc',hcm',hlen',hcsl',hxy'⟩
      · cases hv
      · simp only [Value.slice.injEq,Option.some.injEq,Addr.mk.injEq,and_true,true_and] at hv
        obtain ⟨rfl,rfl⟩:=hv
        have he:cs' = cs∧sp' = sp:=by
          have h1:=hl' _ _ hgp'
          have h2:w.heap[g]? = some (.cells (cs ++ sp).toArray e (0,0)):=hwg
          have h3:w.heap[g]? = some (.cells (cs' ++ sp').toArray e (0,0)):=h1
          rw [h2] at h3
          have h4:cs ++ sp = cs' ++ sp':=by simpa using h3
          have h5:=congrArg (List.take cs.length) h4
          rw [List.take_left,hcsl,← hcsl',List.take_left] at h5
          refine ⟨h5.symm,?_⟩
          rw [h5] at h4
          exact (List.append_cancel_left h4).symm
        obtain ⟨rfl,rfl⟩:=he
        exact ⟨hgp',hxy'⟩
    by_cases hroom:xs.length + ys.length ≤ cap
    · have hfit:xs.length * i.size + news.length ≤ (cs ++ sp).toArray.size:=by
        simp only [List.size_toArray,hlen,hnl',hsz',← Nat.add_mul]
        exact Nat.mul_le_mul_right _ hroom
      have hr:=run_append_room (P:=P) w t ty e i hu hi g xs.length cap (cs ++ sp).toArray hwg q ys.length c news hnl' hnews hone hroom hfit
      refine ⟨_,_,hr,?_⟩
      have harr:(cs ++ sp).toArray.toList.take (xs.length * i.size) ++ news ++ (cs ++ sp).toArray.toList.drop (xs.length * i.size + news.length) = (cs ++ news) ++ sp.drop news.length:=by
        rw [hsz',← hcsl]
        simp [List.drop_append]
      rw [harr]
      refine s.turn k hk _ rfl rfl rfl (by simp) fun p hp hl hb=>?_
      obtain ⟨hgp',hxy'⟩:=same p hp hl hb
      refine ⟨fun b hb' hn=>setRow_other w g b _ (fun e'=>by rw [e',hgp'] at hn; cases hn),fun b=>if b = g then some (.cells ((cs ++ news) ++ sp.drop news.length).toArray e (0,0)) else p b,.inr ?_,fun b o hbo=>?_⟩
      · refine ⟨g,cap,cs ++ news,sp.drop news.length,by simp,by simp,by simpa using hroom,hcm,?_,?_⟩
        · have h1:=hlen
          simp only [List.length_append,List.length_drop] at h1 ⊢
          have h2:cs.length + news.length ≤ cap * Enc.sz α:=by rw [hcsl,hnl,← Nat.add_mul]; exact Nat.mul_le_mul_right _ hroom
          omega
        · have hoff:Hp.off (fun b=>if b = g then some (.cells ((cs ++ news) ++ sp.drop news.length).toArray e (0,0)) else p b) g = p.off g:=by
            funext b; unfold Hp.off; split <;> simp_all
          rw [hoff]
          exact hxy'
      · dsimp only at hbo
        split at hbo
        · rename_i hbg; subst hbg; cases hbo
          exact ⟨.inl (by rw [hgp']; simp),setRow_heap w b _ _ e (0,0) hwg⟩
        · rename_i hbg
          exact ⟨.inl (by rw [hbo]; simp),by rw [setRow_other w g b _ hbg]; exact hl b o hbo⟩
    · have holds:∀ j u,cs[j]? = some u→w.cell? ((⟨g,0,none⟩:Addr).add j) = some u:=fun j u hj=>by
        have hw:w.heap[g]? = some (.cells (cs ++ sp).toArray e (0,0)):=hwg
        rw [add_lit]
        simp [World.cell?,hw,List.getElem?_append_left (List.getElem?_eq_some_iff.1 hj).1,hj]
      have hr:=run_append_grow (P:=P) w t ty e i z hu hi hz' ⟨g,0,none⟩ xs.length cap cs (by rw [hcsl,hsz']) holds q ys.length c news hnl' hnews (by omega) h63' (growslice_fits (by omega) hbytes)
      have hge:=grownCap_ge w (xs.length + ys.length) cap e
      have hle:=grownCap_le_maxLen w (xs.length + ys.length) cap e h63
      have:=fresh (fun p=>p.off g) cs (grownCap w (xs.length + ys.length) cap e) (fun p=>Hp.off_le p g) hcsl (fun p hp hl hb=>(same p hp hl hb).2) hge hle
      exact ⟨_,_,hr,by simpa using this⟩
theorem rowG_shape {α:Type} [Enc α] {Φ:Hp→List α→List Value→Prop} {e:TypeId} {v:Value} {xs:List α} {p:Hp} (h:rowG Φ e v xs p):∃ q:Option Nat × Nat,v = rowV q xs.length:=by
  rcases h with ⟨rfl,rfl,_⟩ | ⟨g,cap,cs,sp,rfl,_⟩
  · exact ⟨(none,0),rfl⟩
  · exact ⟨(some g,cap),rfl⟩
theorem Sd.appG {α:Type} [Enc α] {Φ:Hp→List α→List Value→Prop} [PhM w0 Φ] (k:Nat) {C:Ch} (hk:G[k]? = some C) {x y:Operand} {t e:TypeId} {by':Nat} {z v:Value} {xs ys:List α} {q:Addr} {m c:Nat}
    (ht:slTy P t = some (e,Enc.sz α,by')) (hz:zeroOf P e = some z) (hzs:z.cells.size = Enc.sz α) (hx:ev fr x = some v) (hy:ev fr y = some (.slice (some q) m c))
    (hm:ys.length = m) (hlt:xs.length + ys.length < 1099511627776) (hby:by' ≤ 128)
    (hC:∀ w,Sat w0 G w→∃ news,(∀ p,C p→p.le (hpOf w)→(∀ b o,p b = some o→w0.heap.size ≤ b)→rowAndG Φ e v xs ys news p)∧(∀ j u,news[j]? = some u→w.cell? (q.add j) = some u)∧news.length = ys.length * Enc.sz α∧∀ u ∈ news,u.oneCell' = true) :
    Sd P n ⟨dst,.call { callee:=.builtin .append,args:=#[x,y],argTypes:=#[t,t] },ty,pos,aft,g⟩ fr (Sat w0 G) (fun q=>rowV q (xs ++ ys).length) (fun q=>Sat w0 (G.set k (rowG Φ e (rowV q (xs ++ ys).length) (xs ++ ys)))):=fun a w kn s=>by
  have hbytes:(xs.length + m) * by' ≤ 140737488355328:=by
    have:=Nat.mul_le_mul (show xs.length + m ≤ 1099511627776 by omega) hby; omega
  have h63:xs.length + m ≤ maxLen:=by unfold maxLen; omega
  obtain ⟨news,hC,h1,h2,h3⟩:=hC w s
  have s':Sat w0 (G.set k (fun p=>C p∧p.le (hpOf w))) w:=by
    obtain ⟨e1,own,h2⟩:=s
    refine ⟨e1,own,fun j E hj=>?_⟩
    by_cases hjk:k = j
    · subst hjk
      rw [List.getElem?_set_self (List.getElem?_eq_some_iff.1 hk).1] at hj
      have:=(Option.some.inj hj).symm; subst this
      obtain ⟨p,hp,hb⟩:=h2 k C hk
      exact ⟨p,⟨hp,fun b o e=>(hb b o e).2.2⟩,hb⟩
    · rw [List.getElem?_set_ne hjk] at hj
      exact h2 j E hj
  have hkl:k < G.length:=(List.getElem?_eq_some_iff.1 hk).1
  obtain ⟨v',w',hr,hs⟩:=s'.appendG (ty:=ty) (k:=k) (List.getElem?_set_self hkl) ht hz hzs (fun p hp hb=>hC p hp.1 hp.2 hb) hm h1 h2 h3 hbytes h63 (c:=c)
  rw [run_builtin_append kn hx hy hr]
  rw [List.set_set] at hs
  obtain ⟨p,hp,_⟩:=hs.get k (List.getElem?_set_self hkl)
  obtain ⟨q',hq⟩:=rowG_shape hp
  exact ⟨q',hq,by show Sat w0 (G.set k (rowG Φ e (rowV q' (xs ++ ys).length) (xs ++ ys))) w'; rw [← hq]; exact hs⟩
def dand {α:Type} [Enc α] [Deep α] (e:TypeId) (v:Value) (xs ys:List α) (news:List Value):Ch:=star (drow e v xs) (fun q=>DRF q ys news)
theorem dand_row {α:Type} [Enc α] [Deep α] {e:TypeId} {v:Value} {xs ys:List α} {news:List Value} {r:Hp} (h:dand e v xs ys news r):rowAndG DRF e v xs ys news r:=by
  obtain ⟨p,q,hp,hq,hd,l1,l2⟩:=h
  rcases hp with ⟨rfl,rfl,_⟩ | ⟨g,cap,cs,sp,hv,hg,h3,h4,h5,h6⟩
  · exact .inl ⟨rfl,rfl,hq.mono l2⟩
  · refine .inr ⟨g,cap,cs,sp,hv,l1 _ _ hg,h3,h4,h5,h6.toRF.length,?_⟩
    refine DRF.append hq h6 (fun b=>?_) (Hp.off_mono l1 g) (fun b o e=>?_)
    · rcases hd b with h | h
      · refine .inl ?_
        unfold Hp.off
        split
        · rfl
        · exact h
      · exact .inr h
    · unfold Hp.off
      have hbg:b ≠ g:=fun e'=>by
        subst e'
        rcases hd b with h | h
        · rw [h] at hg; cases hg
        · rw [h] at e; cases e
      rw [if_neg hbg]; exact l2 b o e
theorem Sd.appL {α:Type} [Enc α] [Deep α] (k k1 j:Nat) {L:Ch} {x y:Operand} {t e e':TypeId} {by':Nat} {z v:Value} {xs:List α} (ys:List α) {news:List Value} {b m c:Nat}
    (hk:G[k]? = some (drow e v xs)) (hk1:G[k1]? = some (blk b news e')) (hj:G[j]? = some L) (hL:∀ q,L q→DRF q ys news) (hne:(Nat.beq k j || (Nat.beq k1 k || Nat.beq k1 j)) = false)
    (ht:slTy P t = some (e,Enc.sz α,by')) (hz:zeroOf P e = some z) (hzs:z.cells.size = Enc.sz α) (hx:ev fr x = some v) (hy:ev fr y = some (.slice (some ⟨b,0,none⟩) m c))
    (hm:ys.length = m) (hlt:xs.length + ys.length < 1099511627776) (hby:by' ≤ 128) :
    Sd P n ⟨dst,.call { callee:=.builtin .append,args:=#[x,y],argTypes:=#[t,t] },ty,pos,aft,g⟩ fr (Sat w0 G) (fun q=>rowV q (xs ++ ys).length) (fun q=>Sat w0 ((G.set k (drow e (rowV q (xs ++ ys).length) (xs ++ ys))).set j dead)):=fun a w kn s=>by
  simp only [Bool.or_eq_false_iff] at hne
  have nkj:k ≠ j:=fun h=>by subst h; rw [Nat.beq_refl] at hne; cases hne.1
  have n1k:k1 ≠ k:=fun h=>by subst h; rw [Nat.beq_refl] at hne; cases hne.2.1
  have n1j:k1 ≠ j:=fun h=>by subst h; rw [Nat.beq_refl] at hne; cases hne.2.2
  have hkl:=(List.getElem?_eq_some_iff.1 hk).1
  have hjl:=(List.getElem?_eq_some_iff.1 hj).1
  have s1:=s.merge2 k j hk hj nkj (dand e v xs ys news) fun p q r a b d l1 l2=>⟨p,q,a,hL q b,d,l1,l2⟩
  have hk':((G.set k (dand e v xs ys news)).set j dead)[k]? = some (dand e v xs ys news):=by rw [List.getElem?_set_ne nkj.symm,List.getElem?_set_self hkl]
  have hk1':((G.set k (dand e v xs ys news)).set j dead)[k1]? = some (blk b news e'):=by rw [List.getElem?_set_ne n1j.symm,List.getElem?_set_ne n1k.symm]; exact hk1
  have h:=Sd.appG (P:=P) (n:=n) (fr:=fr) (dst:=dst) (ty:=ty) (pos:=pos) (aft:=aft) (g:=g) (Φ:=DRF) k hk' ht hz hzs hx hy hm hlt hby (fun w' s'=>⟨news,fun p hp _ _=>dand_row hp,fun j u hj=>by
      rw [add_lit]; simp [World.cell?,(s'.getBlk hk1').1,hj],by
      obtain ⟨p,⟨p1,q1,_,hq,_⟩,_⟩:=s'.get k hk'
      exact hq.toRF.length,by
      obtain ⟨p,⟨p1,q1,_,hq,_⟩,_⟩:=s'.get k hk'
      exact hq.toRF.one⟩) a w kn s1
  have e2:∀ E:Ch,((G.set k (dand e v xs ys news)).set j dead).set k E = (G.set k E).set j dead:=fun E=>by rw [List.set_comm _ _ nkj.symm,List.set_set]
  simp only [e2] at h
  exact h
theorem Sd.appD {α:Type} [Enc α] [Deep α] (k j:Nat) {x y:Operand} {t e e':TypeId} {by':Nat} {z v vy:Value} {xs ys:List α}
    (hk:G[k]? = some (drow e v xs)) (hj:G[j]? = some (drow e' vy ys)) (hne:Nat.beq k j = false)
    (ht:slTy P t = some (e,Enc.sz α,by')) (hz:zeroOf P e = some z) (hzs:z.cells.size = Enc.sz α) (hx:ev fr x = some v) (hy:ev fr y = some vy)
    (hlt:xs.length + ys.length < 1099511627776) (hby:by' ≤ 128) :
    Sd P n ⟨dst,.call { callee:=.builtin .append,args:=#[x,y],argTypes:=#[t,t] },ty,pos,aft,g⟩ fr (Sat w0 G) (fun q=>rowV q (xs ++ ys).length) (fun q=>Sat w0 ((G.set k (drow e (rowV q (xs ++ ys).length) (xs ++ ys))).set j dead)):=fun a w kn s=>by
  have nkj:k ≠ j:=fun h=>by subst h; rw [Nat.beq_refl] at hne; cases hne
  have hkl:=(List.getElem?_eq_some_iff.1 hk).1
  have hjl:=(List.getElem?_eq_some_iff.1 hj).1
  obtain ⟨pj,hpj,hlj,_⟩:=s.get j hj
  rcases hpj with ⟨rfl,rfl,_⟩ | ⟨gj,capj,csj,spj,rfl,hgj,hlcj,hcmj,hlenj,hdj⟩
  · -- nothing
    obtain ⟨p,hp,_⟩:=s.get k hk
    obtain ⟨q',hq⟩:=rowG_shape hp
    subst hq
    obtain ⟨hu,i,hi,_,_⟩:=slTy_spec ht
    have hf:=rowG_fits hp
    have hr:(Builtin.append_ #[t,t] ty #[rowV q' xs.length,.slice none 0 0]).run P w = .ok (rowV q' xs.length) w:=by
      obtain ⟨o,cc⟩:=q'
      have h1:xs.length ≤ cc:=hf.2.1
      cases o <;> simp [rowV,Builtin.append_,run_underlying hu,sizeOf,typeInfo,hi,Builtin.lenOf,Builtin.firstCells,storeCells,h1]
    rw [run_builtin_append kn hx hy hr]
    refine ⟨q',by simp,?_⟩
    have:=s.weaken j hj dead (fun _ _=>trivial)
    simp only [List.append_nil]
    have e1:(G.set k (drow e (rowV q' xs.length) xs)) = G:=by
      obtain ⟨hl,he⟩:=List.getElem?_eq_some_iff.1 hk
      exact he ▸ List.set_getElem_self hl
    rw [e1]; exact this
  · obtain ⟨pj',hpj',s0⟩:=s.freeze j hj
    obtain ⟨gj',capj',csj',spj',hvj,hgj',hlcj',hcmj',hlenj',hdj'⟩:=(hpj'.resolve_left fun h=>by have h1:=h.1; cases h1)
    simp only [Value.slice.injEq,Option.some.injEq,Addr.mk.injEq,and_true,true_and] at hvj
    obtain ⟨rfl,rfl⟩:=hvj
    have hk0:(G.set j (fz pj'))[k]? = some (drow e v xs):=by rw [List.getElem?_set_ne nkj.symm]; exact hk
    have hj0:(G.set j (fz pj'))[j]? = some (fz pj'):=List.getElem?_set_self hjl
    have s1:=s0.merge2 k j hk0 hj0 nkj (fun r=>pj'.le r∧dand e v xs ys csj' r) fun p q r a b d l1 l2=>by
      rw [show q = pj' from b] at d l2
      exact ⟨l2,p,pj',a,hdj'.mono (Hp.off_le _ _),d,l1,l2⟩
    have hk':(((G.set j (fz pj')).set k (fun r=>pj'.le r∧dand e v xs ys csj' r)).set j dead)[k]? = some (fun r=>pj'.le r∧dand e v xs ys csj' r):=by
      rw [List.getElem?_set_ne nkj.symm,List.getElem?_set_self (by simpa using hkl)]
    have h:=Sd.appG (P:=P) (n:=n) (fr:=fr) (dst:=dst) (ty:=ty) (pos:=pos) (aft:=aft) (g:=g) (Φ:=DRF) k hk' ht hz hzs hx hy rfl hlt hby (fun w' s'=>⟨csj',fun p hp _ _=>dand_row hp.2,fun i u hi=>by
        obtain ⟨p,⟨hp,_⟩,hl,_⟩:=s'.get k hk'
        have hw:w'.heap[gj]? = some (.cells (csj' ++ spj').toArray e' (0,0)):=hl _ _ (hp _ _ hgj')
        rw [add_lit]
        simp [World.cell?,hw,List.getElem?_append_left (List.getElem?_eq_some_iff.1 hi).1,hi],hdj'.toRF.length,hdj'.toRF.one⟩) a w kn s1
    have e2:∀ C:Ch,(((G.set j (fz pj')).set k (fun r=>pj'.le r∧dand e v xs ys csj' r)).set j dead).set k C = (G.set k C).set j dead:=fun C=>by
      rw [List.set_comm _ _ nkj.symm,List.set_set,List.set_comm _ _ nkj.symm,List.set_set]
    simp only [e2] at h
    exact h
end
section
variable {P:Program} {n:Nat} {fr:Fr} {o:Oper}
theorem Sd.pre {S S0:As} {ι:Type} {val:ι→Value} {S':ι→As} (hs:∀ w,S w→S0 w) (h:Sd P n o fr S0 val S'):Sd P n o fr S val S':=fun a w k s=>h a w k (hs w s)
end
section
variable {P:Program} {n:Nat} {fr:Fr} {dst:Option Tmp} {ty:TypeId} {pos:String} {aft:Array Edge} {g:Option (Nat × Bool)} {S:As} {w0:World} {G:List Ch}
theorem R_el {α:Type} [Enc α] [Inhabited α] {H:Hp} {xs:List α} {b o len cap:Nat} (h:R H xs [.slice (some ⟨b,o,none⟩) len cap]) {ji:Int} (hj:0 ≤ ji∧ji < (xs.length:Int)) :
    ∃ c,R H (gi xs ji) c∧AtH H b (o + ji.toNat * Enc.sz α) c:=by
  obtain ⟨p',cap',e,s⟩:=h
  simp only [List.cons.injEq,Value.slice.injEq,and_true] at e
  obtain ⟨rfl,rfl,rfl⟩:=e
  rcases s.2.2 with rfl | ⟨b',o',cs,hp,hr,ha⟩
  · simp at hj; omega
  · simp only [Option.some.injEq,Addr.mk.injEq,and_true] at hp
    obtain ⟨rfl,rfl⟩:=hp
    obtain ⟨c,hc,hg⟩:=hr.get (gi_get hj)
    obtain ⟨d,t,f,e1,e2⟩:=ha
    exact ⟨c,hc,d,t,f,e1,fun j v hv=>by rw [Nat.add_assoc]; exact e2 _ _ (hg j v hv)⟩
theorem Qt.ldZ {t s:TypeId} {x:Operand} {b o:Nat} {cs:List Value} {H:Hp} (ht:tySz P t = some (s,true)) (hx:ev fr x = some (.pointer (some ⟨b,o,none⟩))) (ha:AtH H b o cs) (hh:Held S H) (hl:cs.length = s) :
    Qt P n ⟨dst,.load t x,ty,pos,aft,g⟩ fr S (.agg cs.toArray):=Qt.ldA ht hx hl fun w s j v hj=>(ha.mono (hh w s)).cell hj
theorem Qt.ldZ1 {t:TypeId} {x:Operand} {b o f:Nat} {cs:List Value} {v:Value} {H:Hp} (ht:tySz P t = some (1,false)) (hx:ev fr x = some (.pointer (some ⟨b,o + f,none⟩))) (ha:AtH H b o cs) (hh:Held S H) (hv:cs[f]? = some v) :
    Qt P n ⟨dst,.load t x,ty,pos,aft,g⟩ fr S v:=Qt.ld ht hx fun w s=>(ha.mono (hh w s)).cell hv
theorem Sat.litRowG {α:Type} [Enc α] [Deep α] {w:World} {m b:Nat} {cs:List Value} {e:TypeId} {L:Ch} (k j:Nat) (xs:List α) (h:Sat w0 G w) (hk:G[k]? = some (blk b cs e)) (hj:G[j]? = some L) (hne:k ≠ j) (hm:m ≤ maxLen) (hl:xs.length = m) (hr:∀ q,L q→DRF q xs cs) :
    Sat w0 ((G.set k (drow e (rowV (some b,m) m) xs)).set j dead) w :=
  h.merge2 k j hk hj hne _ fun p q r a bq d l1 l2=>by
    have hp:p b = some (.cells cs.toArray e (0,0)):=a
    refine .inr ⟨b,m,cs,[],by rw [hl]; rfl,by simpa using l1 _ _ hp,by omega,hm,by have:=(hr q bq).toRF.length; simp [this,hl],(hr q bq).mono fun b' o e'=>?_⟩
    unfold Hp.off
    have hbg:b' ≠ b:=fun e2=>by
      subst e2
      rcases d b' with h | h
      · rw [h] at hp; cases hp
      · rw [h] at e'; cases e'
    rw [if_neg hbg]; exact l2 b' o e'
theorem Sd.stD {α:Type} [Enc α] [Deep α] [Inhabited α] (k:Nat) {t e:TypeId} {x y:Operand} {xs:List α} {b cap s sz len f:Nat} {ji:Int} {gg:Bool} (x1:α) {v:Value} {us:List Value} (hk:G[k]? = some (drow e (.slice (some ⟨b,0,none⟩) len cap) xs)) (ht:tySz P t = some (s,gg))
    (hx:ev fr x = some (.pointer (some ⟨b,0 + ji.toNat * sz + f,none⟩))) (hy:ev fr y = some v) (hsz:sz = Enc.sz α) (hj:0 ≤ ji∧ji < xs.length) (hv:v.cells.toList = us) (hl:us.length = s) (hle:f + s ≤ Enc.sz α)
    (h1:us.all (·.oneCell') = true) (hn:∀ h c,Deep.D h (gi xs ji) c→Deep.D h x1 (c.take f ++ us ++ c.drop (f + s))) :
    Sd P n ⟨none,.store t x y,ty,pos,aft,g⟩ fr (Sat w0 G) (fun _:Unit=>undef) (fun _=>Sat w0 (G.set k (drow e (.slice (some ⟨b,0,none⟩) len cap) (si xs ji x1)))):=fun a w kn s0=>by
  subst hsz
  obtain ⟨p0,hp0,hl0,_⟩:=s0.get k hk
  rcases hp0 with ⟨hv0,_⟩ | ⟨g0,cap0,cs,sp,hv0,hg0,h3,h4,h5,h6⟩
  · cases hv0
  simp only [Value.slice.injEq,Option.some.injEq,Addr.mk.injEq,and_true,true_and] at hv0
  obtain ⟨rfl,rfl,rfl⟩:=hv0
  have hcl:cs.length = xs.length * Enc.sz α:=h6.toRF.length
  have hw:w.heap[b]? = some (.cells (cs ++ sp).toArray e (0,0)):=hl0 _ _ hg0
  have hjn:ji.toNat < xs.length:=by omega
  have hpl:ji.toNat * Enc.sz α + Enc.sz α ≤ cs.length:=by
    rw [hcl,← Nat.succ_mul]; exact Nat.mul_le_mul_right _ hjn
  have ho:0 + ji.toNat * Enc.sz α + f + s ≤ (cs ++ sp).length:=by simp only [List.length_append]; omega
  have hr:=run_storeVar1 (P:=P) ht hw hv hl ho (fun u hu=>List.all_eq_true.1 h1 u hu)
  suffices hfin:Sat w0 (G.set k (drow e (.slice (some ⟨b,0,none⟩) xs.length cap) (si xs ji x1))) (w.setRow b ((cs ++ sp).take (0 + ji.toNat * Enc.sz α + f) ++ us ++ (cs ++ sp).drop (0 + ji.toNat * Enc.sz α + f + s)).toArray) by
    have hx':=kn.ev hx
    generalize 0 + ji.toNat * Enc.sz α + f = oo at hx' hr hfin
    simp [execOp,hx',kn.ev hy,Instr.storeAt,Instr.sureAddr,hr,solidRes]
    simpa using hfin
  refine s0.turn k hk _ rfl rfl rfl (by simp) fun p hp hlp hb=>?_
  rcases hp with ⟨hv0,_⟩ | ⟨g1,cap1,cs1,sp1,hv1,hg1,h31,h41,h51,h61⟩
  · cases hv0
  simp only [Value.slice.injEq,Option.some.injEq,Addr.mk.injEq,and_true,true_and] at hv1
  obtain ⟨rfl,rfl⟩:=hv1
  have hcl1:cs1.length = xs.length * Enc.sz α:=h61.toRF.length
  have he:cs1 = cs∧sp1 = sp:=by
    have h7:w.heap[b]? = some (.cells (cs1 ++ sp1).toArray e (0,0)):=hlp _ _ hg1
    rw [hw] at h7
    have h8:cs ++ sp = cs1 ++ sp1:=by simpa using h7
    have h9:=congrArg (List.take cs.length) h8
    rw [List.take_left,hcl,← hcl1,List.take_left] at h9
    refine ⟨h9.symm,?_⟩
    rw [h9] at h8
    exact (List.append_cancel_left h8).symm
  obtain ⟨rfl,rfl⟩:=he
  have hd:=DRF.set f s h61 (i:=ji.toNat) (x:=gi xs ji) (x1:=x1) (gi_get hj) hl hle (fun p c hd=>hn p c hd)
  have hcells:(cs1 ++ sp1).take (0 + ji.toNat * Enc.sz α + f) ++ us ++ (cs1 ++ sp1).drop (0 + ji.toNat * Enc.sz α + f + s) = (cs1.take (ji.toNat * Enc.sz α + f) ++ us ++ cs1.drop (ji.toNat * Enc.sz α + f + s)) ++ sp1:=by
    rw [Nat.zero_add,List.take_append_of_le_length (by omega),List.drop_append_of_le_length (by omega)]; simp
  refine ⟨fun b' hb' hnn=>setRow_other w b b' _ (fun e'=>by rw [e',hg1] at hnn; cases hnn),fun b'=>if b' = b then some (.cells ((cs1 ++ sp1).take (0 + ji.toNat * Enc.sz α + f) ++ us ++ (cs1 ++ sp1).drop (0 + ji.toNat * Enc.sz α + f + s)).toArray e (0,0)) else p b',.inr ⟨b,cap,_,sp1,by rw [show (si xs ji x1).length = xs.length from len_si],by simp only [if_true]; rw [hcells],by rw [len_si]; exact h31,h41,?_,?_⟩,fun b' o hbo=>?_⟩
  · have:=congrArg List.length hcells
    have h10:(cs1 ++ sp1).length = cap * Enc.sz α:=h51
    rw [← this]
    simp only [List.length_append,List.length_take,List.length_drop] at ho h10 ⊢
    omega
  · have hoff:Hp.off (fun b'=>if b' = b then some (.cells ((cs1 ++ sp1).take (0 + ji.toNat * Enc.sz α + f) ++ us ++ (cs1 ++ sp1).drop (0 + ji.toNat * Enc.sz α + f + s)).toArray e (0,0)) else p b') b = p.off b:=by
      funext b'; unfold Hp.off; split <;> simp_all
    rw [hoff]; exact hd
  · dsimp only at hbo
    split at hbo
    · rename_i hbg; subst hbg; cases hbo
      exact ⟨.inl (by rw [hg1]; simp),by
        have:=setRow_heap w b' _ ((cs1 ++ sp1).take (0 + ji.toNat * Enc.sz α + f) ++ us ++ (cs1 ++ sp1).drop (0 + ji.toNat * Enc.sz α + f + s)).toArray e (0,0) (hlp _ _ hg1)
        simpa using this⟩
    · rename_i hbg
      exact ⟨.inl (by rw [hbo]; simp),by
        have:=setRow_other w b b' ((cs1 ++ sp1).take (0 + ji.toNat * Enc.sz α + f) ++ us ++ (cs1 ++ sp1).drop (0 + ji.toNat * Enc.sz α + f + s)).toArray hbg
        simp only [Nat.zero_add] at this ⊢
        first | (rw [this]; exact hlp b' o hbo) | (simpa [this] using hlp b' o hbo)⟩
end
section
variable {P:Program} {n:Nat} {fr:Fr} {w0:World} {G:List Ch}
theorem Cont.retCT {fn:Func} {R:Ending→World→Prop} {t t' ty sz b:Nat} {e:TypeId} {cs:List Value} {v':Value} (k:Nat) (hr:fn.results = #[.cell t ty,.tmp t']) (ht:tySz P ty = some (sz,true)) (hv:look fr t = some (.pointer (some ⟨b,0,none⟩)))
    (hk:G[k]? = some (blk b cs e)) (hl:cs.length = sz) (hv':look fr t' = some v') (h:∀ w,Sat w0 G w→R (.returned (.tuple #[.agg cs.toArray,v'])) w):Cont n (bodyPost P fn R .ret) fr (Sat w0 G):=fun a w kn s=>by
  have hld:=run_loadVarA (P:=P) (w:=w) (b:=b) (o:=0) ht hl (fun j v hj=>by
    have:=(s.getBlk hk).1
    simp [World.cell?,this,hj])
  have hp:=kn.getD hv
  have hq:=kn.getD hv'
  refine bodyPost_ret (v:=.tuple #[.agg cs.toArray,v']) ?_ kn.defers (h w s)
  have hp':a.tmps[t]?.getD undef = .pointer (some ⟨b,0,none⟩):=by simpa [Array.getD_eq_getD_getElem?] using hp
  have hq':a.tmps[t']?.getD undef = v':=by simpa [Array.getD_eq_getD_getElem?] using hq
  simp [results,hr,hp',hq',asAddr,hld]
end
def FnR (P:Program) (w:World) (v:Value) {α β:Type} (Rel:α→List Value→Prop) (dec:β→Value) (p:α→Option β):Prop :=
  ∃ (f:FuncId) (cs:List Value),v = .func (.func f) #[] cs.toArray∧Ent P f∧∀ x c r w',Rel x c→Ext w w'→p x = some r→Calls P f (c ++ cs).toArray w' fun e w''=>e = .returned (dec r)∧Ext w' w''
section
variable {P:Program} {n:Nat} {fr:Fr} {dst:Option Tmp} {ty:TypeId} {pos:String} {aft:Array Edge} {g:Option (Nat × Bool)} {S:As} {w0:World} {G:List Ch}
theorem Qt.callR {xo:Operand} {xs:List Operand} {ts:Array TypeId} {v:Value} {α β:Type} {Rel:α→List Value→Prop} {dec:β→Value} {p:α→Option β} (hv:ev fr xo = some v) (hf:FnR P w0 v Rel dec p) (hs:∀ w,S w→Ext w0 w) {x:α} {r:β} (hr:p x = some r) {c:List Value} (hx:evs fr xs = some c) (hc:Rel x c) :
    Qt P n ⟨dst,.call { callee:=.value xo,args:=xs.toArray,argTypes:=ts },ty,pos,aft,g⟩ fr S (dec r):=fun a w k s=>by
  obtain ⟨f,cs,rfl,he,hcc⟩:=hf
  rw [run_enterV he hv hx k]
  have:=hcc x c r w hc (hs w s) hr
  rw [show c.toArray ++ cs.toArray = (c ++ cs).toArray by simp]
  exact ⟨Ext.refl w,this⟩
end
end Go.Vg
set_option linter.unusedVariables false
set_option linter.unusedSectionVars false
namespace Go.Vg
open Go
theorem sj {α:Type} {a b:α} (h:some a = some b):a = b:=Option.some.inj h
section
variable {P:Program} {n:Nat} {ops:Array Oper} {Q:Po} {o:Oper} {rest:List Oper} {fr:Fr} {S:As}
theorem rp {v:Value} (h:Pu P n o fr v) (hr:RS P n ops Q rest (putF o.dst v fr) S) (hg:gval ops fr o.guard = some true:=by rfl) (hd:dOk n o.dst = true:=by rfl):RS P n ops Q (o :: rest) fr S:=RS.p h hg hd hr
theorem rq {v:Value} {w0:World} {G:List Ch} (h:Qt P n o fr (Sat w0 G) v) (hr:RS P n ops Q rest (putF o.dst v fr) (Sat w0 G)) (hg:gval ops fr o.guard = some true:=by rfl) (hd:dOk n o.dst = true:=by rfl):RS P n ops Q (o :: rest) fr (Sat w0 G):=RS.q h hg hd hr
theorem ro (hr:RS P n ops Q rest (putF o.dst undef fr) S) (hg:gval ops fr o.guard = some false:=by rfl) (hd:dOk n o.dst = true:=by rfl):RS P n ops Q (o :: rest) fr S:=RS.no hg hd hr
variable {dst:Option Tmp} {ty:TypeId} {pos:String} {aft:Array Edge} {g:Option (Nat × Bool)}
theorem rM {x:Operand} {v:Value} (h:ev fr x = some v) (hr:RS P n ops Q rest (putF dst v fr) S) (hg:gval ops fr g = some true:=by rfl) (hd:dOk n dst = true:=by rfl):RS P n ops Q (⟨dst,.move x,ty,pos,aft,g⟩ :: rest) fr S:=RS.p (Pu.move h) hg hd hr
theorem rA {x:Operand} {v:Value} (h:ev fr x = some v) (hr:RS P n ops Q rest (putF dst v fr) S) (hg:gval ops fr g = some true:=by rfl) (hd:dOk n dst = true:=by rfl):RS P n ops Q (⟨dst,.assign x,ty,pos,aft,g⟩ :: rest) fr S:=RS.p (Pu.assign h) hg hd hr
end
section
variable {P:Program} {n:Nat} {ops:Array Oper} {Q:Po} {full:List (Nat × Kd)} {plan:List (Nat × Kd)} {fr:Fr}
theorem dp {i:Nat} {o:Oper} {v:Value} {w0:World} {G:List Ch} (hi:ops[i]? = some o) (h:Pu P n o fr v) (hr:RD P n ops Q full (fun _=>True) plan (putF o.dst v fr) (Sat w0 G)) (hg:gval ops fr o.guard = some true:=by rfl) (hd:dOk n o.dst = true:=by rfl):RD P n ops Q full (fun _=>True) ((i,.pu) :: plan) fr (Sat w0 G):=RD.p (fun _ _=>trivial) hi h hg hd hr
theorem dq {i:Nat} {o:Oper} {v:Value} {w0:World} {G:List Ch} (hi:ops[i]? = some o) (h:Qt P n o fr (Sat w0 G) v) (hr:RD P n ops Q full (fun _=>True) plan (putF o.dst v fr) (Sat w0 G)) (hg:gval ops fr o.guard = some true:=by rfl) (hd:dOk n o.dst = true:=by rfl):RD P n ops Q full (fun _=>True) ((i,.rd) :: plan) fr (Sat w0 G):=RD.q (fun _ _=>trivial) hi h hg hd hr
theorem dn {i:Nat} {o:Oper} {w0:World} {G:List Ch} {k:Kd} (hi:ops[i]? = some o) (hr:RD P n ops Q full (fun _=>True) plan (putF o.dst undef fr) (Sat w0 G)) (hk:k = .pu ∨ k = .wk ∨ k = .rd:=by decide) (hg:gval ops fr o.guard = some false:=by rfl) (hd:dOk n o.dst = true:=by rfl):RD P n ops Q full (fun _=>True) ((i,k) :: plan) fr (Sat w0 G):=RD.no (fun _ _=>trivial) hi hg hd hk hr
end
section
variable {P:Program} {n:Nat} {fr:Fr} {S:As} {Q:Po}
theorem cq {c:Code} (fr':Fr) (h:T P n c fr' S Q) (hf:Vg.Sub fr fr':=by (repeat (first | exact trivial | refine ⟨rfl,?_⟩))):T P n c fr S Q:=T.conseq h hf fun _ s=>s
end
end Go.Vg
set_option linter.unusedSimpArgs false
set_option linter.unusedVariables false
namespace Go.Vg
open Enc (R)

structure Raw3 where
  a:Value
  b:Value
  c:Value
  ok:(a.oneCell' && (b.oneCell' && c.oneCell')) = true
instance:Inhabited Raw3:=⟨⟨.bool false,.bool false,.bool false,rfl⟩⟩
def Raw3.cells (x:Raw3):List Value:=[x.a,x.b,x.c]
instance:Enc Raw3 where
  sz:=3
  R _ x cs:=cs = [x.a,x.b,x.c]
  len:=fun e=>by rw [e]; rfl
  one:=fun {h x cs} e u hu=>by
    have:=x.ok
    simp only [Bool.and_eq_true] at this
    rw [e] at hu; simp only [List.mem_cons,List.not_mem_nil,or_false] at hu
    rcases hu with rfl | rfl | rfl
    · exact this.1
    · exact this.2.1
    · exact this.2.2
  mono:=fun _ e=>e
instance:Flat Raw3:=⟨fun h=>h⟩

theorem RF_raw {h:Hp}:∀ {xs:List Raw3} {cs:List Value},RF h xs cs ↔ cs = xs.flatMap Raw3.cells
  | [],cs=>by simp [RF]
  | x :: xs,cs=>by
    constructor
    · rintro ⟨c,r,e,hx,hr⟩
      have e1:c = [x.a,x.b,x.c]:=hx
      rw [e,e1,RF_raw.1 hr]; rfl
    · intro e
      exact ⟨x.cells,xs.flatMap Raw3.cells,by rw [e]; rfl,rfl,RF_raw.2 rfl⟩

section
variable {α:Type} [Enc α] [Deep α]
def DZ:Hp→List (α × Raw3)→Prop
  | _,[]=>True
  | h,z :: zs=>∃ p q,Deep.D p z.1 z.2.cells∧DZ q zs∧(∀ b,p b = none ∨ q b = none)∧Hp.le p h∧Hp.le q h
abbrev inn (zs:List (α × Raw3)):Ch:=fun p=>DZ p zs
theorem DZ.mono {h h':Hp} (hl:h.le h'):∀ {zs:List (α × Raw3)},DZ h zs→DZ h' zs
  | [],_=>trivial
  | _ :: _,⟨p,q,a,b,d,l1,l2⟩=>⟨p,q,a,b,d,Hp.le_trans l1 hl,Hp.le_trans l2 hl⟩
theorem DZ.toDRF {h:Hp}:∀ {zs:List (α × Raw3)},DZ h zs→DRF h (zs.map (·.1)) ((zs.map (·.2)).flatMap Raw3.cells)
  | [],_=>rfl
  | z :: zs,⟨p,q,a,b,d,l1,l2⟩=>⟨z.2.cells,_,p,q,rfl,a,b.toDRF,d,l1,l2⟩
theorem three {c:List Value} (hl:c.length = 3) (h1:∀ u ∈ c,u.oneCell' = true):∃ r:Raw3,c = r.cells:=by
  match c,hl with
  | [x,y,z],_=>exact ⟨⟨x,y,z,by simp [h1 x (by simp),h1 y (by simp),h1 z (by simp)]⟩,rfl⟩
theorem DZ.ofDRF (hsz:Enc.sz α = 3) {h:Hp}:∀ {xs:List α} {cs:List Value},DRF h xs cs→∃ zs:List (α × Raw3),zs.map (·.1) = xs∧cs = (zs.map (·.2)).flatMap Raw3.cells∧DZ h zs
  | [],cs,e=>⟨[],rfl,e,trivial⟩
  | x :: xs,cs,⟨c,r,p,q,e,a,b,d,l1,l2⟩=>by
    obtain ⟨zs,h1,h2,h3⟩:=DZ.ofDRF hsz b
    have hc:=Deep.toR a
    obtain ⟨t,rfl⟩:=three (by rw [Enc.len hc,hsz]) (Enc.one hc)
    exact ⟨(x,t) :: zs,by simp [h1],by rw [e,h2]; rfl,p,q,a,h3,d,l1,l2⟩
theorem apart_le {p p' q:Hp} (hl:p.le p') (h:∀ b,p' b = none ∨ q b = none):∀ b,p b = none ∨ q b = none:=fun b=>by
  rcases h b with h | h
  · cases hk:p b with
    | none=>exact .inl rfl
    | some o=>have:=hl b o hk; rw [h] at this; cases this
  · exact .inr h
theorem apart_symm {p q:Hp} (h:∀ b,p b = none ∨ q b = none):∀ b,q b = none ∨ p b = none:=fun b=>(h b).symm
theorem le_over_r {p q:Hp} (h:∀ b,p b = none ∨ q b = none):q.le (p.over q):=fun b o e=>by
  unfold Hp.over
  rcases h b with h | h
  · rw [h]; exact e
  · rw [h] at e; cases e
theorem apart_over {p q r:Hp} (h1:∀ b,p b = none ∨ q b = none) (h2:∀ b,p b = none ∨ r b = none):∀ b,p b = none ∨ (q.over r) b = none:=fun b=>by
  rcases h1 b with h | h
  · exact .inl h
  · rcases h2 b with k | k
    · exact .inl k
    · exact .inr (by unfold Hp.over; rw [h]; exact k)
theorem DZ.perm {zs zs':List (α × Raw3)} (hp:zs.Perm zs'):∀ {h:Hp},DZ h zs→DZ h zs':=by
  induction hp with
  | nil=>exact fun h=>h
  | cons z _ ih=>exact fun ⟨p,q,a,b,d,l1,l2⟩=>⟨p,q,a,ih b,d,l1,l2⟩
  | swap x y l =>
    rintro h ⟨p,q,a,⟨p2,q2,a2,b2,d2,k1,k2⟩,d,l1,l2⟩
    have d3:∀ b,p b = none ∨ q2 b = none:=apart_symm (apart_le k2 (apart_symm d))
    have d4:∀ b,p2 b = none ∨ p b = none:=apart_le k1 (apart_symm d)
    exact ⟨p2,p.over q2,a2,⟨p,q2,a,b2,d3,Hp.le_over p q2,le_over_r d3⟩,apart_over d4 d2,Hp.le_trans k1 l2,Hp.over_le l1 (Hp.le_trans k2 l2)⟩
  | trans _ _ ih1 ih2=>exact fun h=>ih2 (ih1 h)
theorem DZ.sub {zs zs':List (α × Raw3)} (hs:zs'.Sublist zs):∀ {h:Hp},DZ h zs→DZ h zs':=by
  induction hs with
  | slnil=>exact fun h=>h
  | cons z _ ih=>exact fun ⟨p,q,a,b,d,l1,l2⟩=>(ih b).mono l2
  | cons_cons z _ ih=>exact fun ⟨p,q,a,b,d,l1,l2⟩=>⟨p,q,a,ih b,d,l1,l2⟩
theorem DZ.append {q:Hp} {ys:List (α × Raw3)} (hy:DZ q ys):∀ {xs:List (α × Raw3)} {p r:Hp},DZ p xs→(∀ b,p b = none ∨ q b = none)→p.le r→q.le r→DZ r (xs ++ ys)
  | [],p,r,_,_,_,l=>hy.mono l
  | x :: xs,p,r,⟨p1,q1,a,b,d,l1,l2⟩,ha,hp,hq=>by
    have h1:=apart_le l2 ha
    have h2:=apart_le l1 ha
    exact ⟨p1,q1.over q,a,DZ.append hy b h1 (Hp.le_over q1 q) (le_over_r h1),apart_over d h2,Hp.le_trans l1 hp,Hp.over_le (Hp.le_trans l2 hp) hq⟩
end

section
variable {w0 w:World} {G:List Ch}
theorem Sat.unstarAt {A B:Ch} (k:Nat) (s:Sat w0 G w) (hk:G[k]? = some (star A B)):Sat w0 (G.set k A ++ [B]) w:=by
  obtain ⟨e,own,h2⟩:=s
  have hkl:=(List.getElem?_eq_some_iff.1 hk).1
  obtain ⟨r,⟨p,q,hp,hq,hd,h3,h4⟩,hbr⟩:=h2 k _ hk
  classical
  refine ⟨e,fun b=>if own b = k∧p b = none then G.length else if own b = G.length then G.length + 1 else own b,fun j E hj=>?_⟩
  rw [List.getElem?_append] at hj
  split at hj
  · rename_i hjl
    simp only [List.length_set] at hjl
    by_cases hjk:k = j
    · subst hjk
      rw [List.getElem?_set_self hkl] at hj
      have:=(Option.some.inj hj).symm; subst this
      refine ⟨p,hp,fun b o hbo=>?_⟩
      obtain ⟨a1,a2,a3⟩:=hbr b o (h3 b o hbo)
      exact ⟨a1,by dsimp only; rw [if_neg (by rw [hbo]; simp),if_neg (by omega)]; exact a2,a3⟩
    · rw [List.getElem?_set_ne hjk] at hj
      obtain ⟨u,hu,hb⟩:=h2 j E hj
      refine ⟨u,hu,fun b o hbo=>?_⟩
      obtain ⟨a1,a2,a3⟩:=hb b o hbo
      exact ⟨a1,by dsimp only; rw [if_neg (by intro h; omega),if_neg (by omega)]; exact a2,a3⟩
  · rename_i hjl
    simp only [List.length_set] at hjl hj
    have hj0:j = G.length:=by
      rcases Nat.lt_or_ge (j - G.length) 1 with h | h
      · omega
      · rw [List.getElem?_eq_none (by simpa using h)] at hj; cases hj
    subst hj0
    simp at hj; subst hj
    refine ⟨q,hq,fun b o hbo=>?_⟩
    obtain ⟨a1,a2,a3⟩:=hbr b o (h4 b o hbo)
    have hpn:p b = none:=(hd b).resolve_right (by rw [hbo]; simp)
    exact ⟨a1,by dsimp only; rw [if_pos ⟨a2,hpn⟩],a3⟩
variable {α:Type} [Enc α] [Deep α]
theorem Sat.toZ (hsz:Enc.sz α = 3) (k:Nat) {e:TypeId} {v:Value} {xs:List α} (s:Sat w0 G w) (hk:G[k]? = some (drow e v xs)):∃ zs:List (α × Raw3),zs.map (·.1) = xs∧Sat w0 (G.set k (row nilH e v (zs.map (·.2))) ++ [inn zs]) w:=by
  have hkl:=(List.getElem?_eq_some_iff.1 hk).1
  obtain ⟨p,hp,s1⟩:=s.freeze k hk
  have hk1:(G.set k (fz p))[k]? = some (fz p):=List.getElem?_set_self hkl
  rcases hp with ⟨rfl,rfl,_⟩ | ⟨g,cap,cs,sp,rfl,hg,h3,h4,h5,h6⟩
  · refine ⟨[],rfl,?_⟩
    have s2:=s1.weaken k hk1 (row nilH e (.slice none 0 0) ([]:List Raw3)) (fun _ _=>.inl ⟨rfl,rfl⟩)
    rw [List.set_set] at s2
    exact s2.addEmpty _ fun _=>trivial
  · obtain ⟨zs,hz1,hz2,hz3⟩:=DZ.ofDRF hsz h6
    refine ⟨zs,hz1,?_⟩
    have hln:(zs.map (·.2)).length = xs.length:=by rw [← hz1]; simp
    have s2:=s1.weaken k hk1 (star (row nilH e (.slice (some ⟨g,0,none⟩) xs.length cap) (zs.map (·.2))) (inn zs)) (fun r hr=>by
      rw [show r = p from hr]
      refine ⟨fun b=>if b = g then p b else none,p.off g,.inr ⟨g,cap,cs,sp,by rw [hln],by simp [hg],by rw [hln]; exact h3,h4,by rw [h5,hsz]; rfl,RF_raw.2 hz2⟩,hz3,fun b=>?_,fun b o hb=>?_,Hp.off_le _ _⟩
      · by_cases hb:b = g
        · exact .inr (by simp [Hp.off,hb])
        · exact .inl (by simp [hb])
      · dsimp only at hb
        split at hb
        · exact hb
        · cases hb)
    rw [List.set_set] at s2
    have s3:=s2.unstarAt k (List.getElem?_set_self hkl)
    rw [List.set_set] at s3
    exact s3
theorem Sat.ofZ (hsz:Enc.sz α = 3) (k j:Nat) {e:TypeId} {v:Value} {rs:List Raw3} {zs:List (α × Raw3)} (s:Sat w0 G w) (hk:G[k]? = some (row nilH e v rs)) (hj:G[j]? = some (inn zs)) (hne:k ≠ j) (hr:zs.map (·.2) = rs):Sat w0 ((G.set k (drow e v (zs.map (·.1)))).set j dead) w :=
  s.merge2 k j hk hj hne _ fun p q r a b d l1 l2=>by
    subst hr
    have hln:(zs.map (·.2)).length = (zs.map (·.1)).length:=by simp
    rcases a with ⟨rfl,hz⟩ | ⟨g,cap,cs,sp,rfl,hg,h3,h4,h5,h6⟩
    · have hz':zs = []:=by simpa using hz
      subst hz'
      exact .inl ⟨rfl,rfl,rfl⟩
    · have e1:cs = (zs.map (·.2)).flatMap Raw3.cells:=RF_raw.1 h6
      refine .inr ⟨g,cap,cs,sp,by rw [hln],l1 _ _ hg,by rw [← hln]; exact h3,h4,by rw [h5,hsz]; rfl,?_⟩
      rw [e1]
      refine (DZ.toDRF b).mono fun c o hc=>?_
      unfold Hp.off
      have hcg:c ≠ g:=fun e2=>by
        subst e2
        rcases d c with h | h
        · rw [h] at hg; cases hg
        · rw [h] at hc; cases hc
      rw [if_neg hcg]; exact l2 c o hc
end
def osl {α:Type} [Enc α] (e:TypeId) (v:Value) (xs:List α):Ch:=fun h =>
  ∃ p cap,v = .slice p xs.length cap∧xs.length ≤ cap∧cap ≤ maxLen∧(xs = [] ∨ ∃ b o c cs,p = some ⟨b,o,none⟩∧h b = some (.cells c e (0,0))∧o + xs.length * Enc.sz α ≤ c.size∧RF nilH xs cs∧∀ j v,cs[j]? = some v→c[o + j]? = some v)
section
variable {w0 w:World} {G:List Ch} {α:Type} [Enc α]
theorem osl_R {e:TypeId} {v:Value} {xs:List α} {h:Hp} (ho:osl e v xs h):R h xs [v]:=by
  obtain ⟨p,cap,rfl,h1,h2,h3⟩:=ho
  refine ⟨p,cap,rfl,h1,h2,?_⟩
  rcases h3 with h3 | ⟨b,o,c,cs,h4,h5,_,h6,h7⟩
  · exact .inl h3
  · exact .inr ⟨b,o,cs,h4,h6.mono (nilH_le _),c,e,(0,0),h5,h7⟩
theorem Rd.ofOsl (k:Nat) {e:TypeId} {v:Value} {xs:List α} (hk:G[k]? = some (osl e v xs)):Rd (Sat w0 G) xs [v]:=fun w s=>by
  obtain ⟨p,hp,hl,_⟩:=s.get k hk
  exact Enc.mono hl (osl_R hp)
theorem Sat.osl_form {k:Nat} {e:TypeId} {v:Value} {xs:List α} (s:Sat w0 G w) (hk:G[k]? = some (osl e v xs)):∃ p c,v = .slice p xs.length c:=by
  obtain ⟨p,⟨q,cap,hq,_⟩,_⟩:=s.get k hk
  exact ⟨q,cap,hq⟩
theorem Sat.nilOsl (e:TypeId) (s:Sat w0 G w):Sat w0 (G ++ [osl e (.slice none 0 0) ([]:List α)]) w:=s.addEmpty _ fun _=>⟨none,0,rfl,by simp,by simp,.inl rfl⟩
theorem Sat.rowOsl [Flat α] {q:Option Nat × Nat} {m:Nat} {e:TypeId} {xs:List α} (k:Nat) (s:Sat w0 G w) (hk:G[k]? = some (row nilH e (rowV q m) xs)):Sat w0 (G.set k (osl e (rowV q m) xs)) w :=
  s.weaken k hk _ fun p hp=>by
    rcases hp with ⟨h1,rfl⟩ | ⟨g,cap,cs,sp,h1,h2,h3,h4,h5,h6⟩
    · exact ⟨none,0,h1,by simp,by simp,.inl rfl⟩
    · refine ⟨_,cap,h1,h3,h4,.inr ⟨g,0,_,cs,rfl,h2,?_,h6.any,fun j v hj=>?_⟩⟩
      · rw [List.size_toArray,h5,Nat.zero_add]; exact Nat.mul_le_mul_right _ h3
      · rw [Nat.zero_add,List.getElem?_toArray,List.getElem?_append_left (List.getElem?_eq_some_iff.1 hj).1]; exact hj
theorem Sat.oslDrop [Flat α] {sz:Nat} {p:Option Addr} {len cap:Nat} {e:TypeId} {xs:List α} (k i:Nat) (s:Sat w0 G w) (hk:G[k]? = some (osl e (.slice p len cap) xs)) (hi:i ≤ xs.length) (hsz:sz = Enc.sz α):Sat w0 (G.set k (osl e (.slice (cutP p cap i sz) (len - i) (cap - i)) (xs.drop i))) w :=
  s.weaken k hk _ fun h hp=>by
    subst hsz
    obtain ⟨q,cq,hv,h1,h2,h3⟩:=hp
    simp only [Value.slice.injEq] at hv
    obtain ⟨rfl,rfl,rfl⟩:=hv
    refine ⟨cutP p cap i (Enc.sz α),cap - i,by rw [List.length_drop],by rw [List.length_drop]; omega,by omega,?_⟩
    rcases h3 with rfl | ⟨b,o,c,cs,rfl,h5,h6,h7,h8⟩
    · exact .inl (by simp)
    · by_cases hlt:i < xs.length
      · refine .inr ⟨b,o + i * Enc.sz α,c,cs.drop (i * Enc.sz α),cutP_lt (by omega),h5,?_,h7.drop i,fun j v hj=>?_⟩
        · rw [List.length_drop]
          have:i * Enc.sz α + (xs.length - i) * Enc.sz α = xs.length * Enc.sz α:=by rw [← Nat.add_mul]; congr 1; omega
          omega
        · rw [List.getElem?_drop] at hj
          rw [Nat.add_assoc]; exact h8 _ _ hj
      · exact .inl (List.drop_eq_nil_of_le (by omega))
end
structure Pr3 where
  a:Int
  b:Int
  c:Int
  deriving Inhabited,DecidableEq
section
variable {P:Program} {n:Nat} {fr:Fr} {dst:Option Tmp} {ty:TypeId} {pos:String} {aft:Array Edge} {g:Option (Nat × Bool)}
end
end Go.Vg
set_option linter.unusedVariables false
set_option linter.unusedSimpArgs false
set_option linter.unusedVariables false
namespace Go.Vg
open Enc (R)
open Go
variable {P:Program} {n:Nat} {fr:Fr} {S:As} {dst:Option Tmp} {ty:TypeId} {pos:String} {aft:Array Edge} {g:Option (Nat × Bool)}
theorem Pu.shrV {xt yt:TypeId} {x y:Operand} {a k:Int} {kk:IntKind} (hx:ev fr x = some (.int .i64 a)) (hy:ev fr y = some (.int kk k)) (h:0 ≤ k∧k < 64) :
    Pu P n ⟨dst,.binOp .shr xt x y yt,ty,pos,aft,g⟩ fr (.int .i64 (a / 2 ^ k.toNat)):=fun ac kn w=>by
  have h2:=shift_shr_any .i64 kk a k h.1
  have h3:min k.toNat 64 = k.toNat:=by omega
  simp [execOp,kn.ev hx,kn.ev hy,binOp,eqGuard,h2,IntKind.bits,h3]
end Go.Vg
set_option linter.unusedSimpArgs false
set_option linter.unusedVariables false
namespace Go.Vg
open Go.RowKit (Below)
open Enc (R)
structure RawN (n:Nat) where
  c:List Value
  hl:c.length = n
  h1:∀ u ∈ c,u.oneCell' = true
instance {n:Nat}:Inhabited (RawN n):=⟨⟨List.replicate n (.bool false),by simp,fun u hu=>by rw [List.eq_of_mem_replicate hu]; rfl⟩⟩
instance {n:Nat}:Enc (RawN n) where
  sz:=n
  R _ x cs:=cs = x.c
  len:=fun {h x cs} e=>by rw [e]; exact x.hl
  one:=fun {h x cs} e=>by rw [e]; exact x.h1
  mono:=fun _ h=>h
instance {n:Nat}:Flat (RawN n):=⟨fun h=>h⟩
section
variable {α:Type} [Enc α] [Deep α] {n:Nat}
def DN:Hp→List (α × RawN n)→Prop
  | _,[]=>True
  | h,z :: zs=>∃ p q,Deep.D p z.1 z.2.c∧DN q zs∧(∀ b,p b = none ∨ q b = none)∧Hp.le p h∧Hp.le q h
theorem DN.mono {h h':Hp} (hl:h.le h'):∀ {zs:List (α × RawN n)},DN h zs→DN h' zs
  | [],_=>trivial
  | _ :: _,⟨p,q,a,b,d,l1,l2⟩=>⟨p,q,a,b,d,Hp.le_trans l1 hl,Hp.le_trans l2 hl⟩
variable {w0 w:World} {G:List Ch}
end
end Go.Vg
set_option linter.unusedSimpArgs false
set_option linter.unusedVariables false
namespace Go.Vg
open Enc (R)
def w64 (x:Int):Int:=(x + 9223372036854775808) % 18446744073709551616 - 9223372036854775808
section
variable {P:Program} {n:Nat} {fr:Fr} {dst:Option Tmp} {ty:TypeId} {pos:String} {aft:Array Edge} {g:Option (Nat × Bool)}
theorem Pu.subW {xt yt:TypeId} {x y:Operand} {a b:Int} (hx:ev fr x = some (.int .i64 a)) (hy:ev fr y = some (.int .i64 b)) :
    Pu P n ⟨dst,.binOp .sub xt x y yt,ty,pos,aft,g⟩ fr (.int .i64 (w64 (a - b))):=Pu.bin hx hy (by rw [binI,IntKind.wrap_i64]; rfl)
end
def Pr3.Wf (x:Pr3):Prop:=I64 x.a∧I64 x.b∧I64 x.c
end Go.Vg
set_option linter.unusedSimpArgs false
set_option linter.unusedVariables false
namespace Go.Vg
open Enc (R)
theorem all_raw (x:Raw3):([x.a,x.b,x.c].all fun u=>u.oneCell') = true:=by
  have:=x.ok
  simpa [Bool.and_eq_true] using this
def FnF (P:Program) (w0:World) (F:Ch) (v:Value) {α β:Type} (enc:α→List Value) (dec:β→Value) (p:α→Option β):Prop :=
  ∃ (f:FuncId) (cs:List Value),v = .func (.func f) #[] cs.toArray∧Ent P f∧∀ x r w',Sat w0 [F] w'→p x = some r→Calls P f (enc x ++ cs).toArray w' fun e w''=>e = .returned (dec r)∧Ext w' w''
def FnRF (P:Program) (w0:World) (F:Ch) (v:Value) {α β:Type} (Rel:α→List Value→Prop) (dec:β→Value) (p:α→Option β):Prop :=
  ∃ (f:FuncId) (cs:List Value),v = .func (.func f) #[] cs.toArray∧Ent P f∧∀ x c r w',Rel x c→Sat w0 [F] w'→p x = some r→Calls P f (c ++ cs).toArray w' fun e w''=>e = .returned (dec r)∧Ext w' w''
section
variable {P:Program} {n:Nat} {fr:Fr} {dst:Option Tmp} {ty:TypeId} {pos:String} {aft:Array Edge} {g:Option (Nat × Bool)} {S:As} {w0 w:World} {G:List Ch} {F:Ch}
theorem FnF.toQ {v:Value} {α β:Type} {enc:α→List Value} {dec:β→Value} {p:α→Option β} (h:FnF P w0 F v enc dec p) (s:Sat w0 [F] w):FnQ P w v enc dec p:=by
  obtain ⟨f,cs,h1,h2,h3⟩:=h
  exact ⟨f,cs,h1,h2,fun x r w' e hp=>h3 x r w' (s.grow e) hp⟩
theorem Qt.callF {xo:Operand} {xs:List Operand} {ts:Array TypeId} {v:Value} {α β:Type} {enc:α→List Value} {dec:β→Value} {p:α→Option β} (hv:ev fr xo = some v) (hf:FnF P w0 F v enc dec p) (hs:∀ w,S w→Sat w0 [F] w) {x:α} {r:β} (hr:p x = some r) (hx:evs fr xs = some (enc x)) :
    Qt P n ⟨dst,.call { callee:=.value xo,args:=xs.toArray,argTypes:=ts },ty,pos,aft,g⟩ fr S (dec r):=fun a w k s=>by
  obtain ⟨f,cs,rfl,he,hc⟩:=hf
  rw [run_enterV he hv hx k]
  have:=hc x r w (hs w s) hr
  rw [show (enc x).toArray ++ cs.toArray = (enc x ++ cs).toArray by simp]
  exact ⟨Ext.refl w,this⟩
end
end Go.Vg
set_option linter.unusedSimpArgs false
set_option linter.unusedVariables false
namespace Go.Vg
open Go.RowKit (Below)
open Enc (R)
section
variable {w0 w:World} {G:List Ch} {α:Type} [Enc α]
def FA (B:Hp):Hp→List α→List Value→Prop:=fun _ xs cs=>RF B xs cs
instance {B:Hp}:PhM w0 (FA (α:=α) B):=⟨fun _ _ d=>d⟩
theorem Sat.nilRowA {B:Hp} (e:TypeId) (h:Sat w0 G w):Sat w0 (G ++ [rowG (FA B) e (rowV (none,0) 0) ([]:List α)]) w:=h.addEmpty _ (fun p=>.inl ⟨rfl,rfl,rfl⟩)
end
section
variable {P:Program} {n:Nat} {fr:Fr} {dst:Option Tmp} {ty:TypeId} {pos:String} {aft:Array Edge} {g:Option (Nat × Bool)} {S:As} {w0:World} {G:List Ch}
end
end Go.Vg
set_option linter.unusedSimpArgs false
set_option linter.unusedVariables false
namespace Go.Vg
open Go.RowKit (Below)
open Enc (R)
def R2 {α:Type} [Enc α] (A H:Hp) (xs:List α) (v:Value):Prop:=∃ p cap,v = .slice p xs.length cap∧xs.length ≤ cap∧cap ≤ maxLen∧(xs = [] ∨ ∃ b o cs,p = some ⟨b,o,none⟩∧RF A xs cs∧AtH H b o cs)
section
variable {w0 w:World} {G:List Ch} {α:Type} [Enc α] {A A' H H':Hp} {xs:List α} {v:Value}
theorem R2.of (h:R A xs [v]):R2 A A xs v:=by
  obtain ⟨p,cap,e,h1,h2,h3⟩:=h
  simp only [List.cons.injEq,and_true] at e
  exact ⟨p,cap,e,h1,h2,h3⟩
theorem R2.mono (hA:A.le A') (hH:H.le H') (h:R2 A H xs v):R2 A' H' xs v:=by
  obtain ⟨p,cap,e,h1,h2,h3⟩:=h
  refine ⟨p,cap,e,h1,h2,h3.imp id ?_⟩
  rintro ⟨b,o,cs,hp,hr,ha⟩
  exact ⟨b,o,cs,hp,hr.mono hA,ha.mono hH⟩
theorem R2.toR {K:Hp} (hA:A.le K) (hH:H.le K) (h:R2 A H xs v):R K xs [v]:=by
  obtain ⟨p,cap,e,h1,h2,h3⟩:=h.mono hA hH
  exact ⟨p,cap,by rw [e],h1,h2,h3⟩
theorem R2.el [Inhabited α] {b o len cap:Nat} (h:R2 A H xs (.slice (some ⟨b,o,none⟩) len cap)) {ji:Int} (hj:0 ≤ ji∧ji < (xs.length:Int)):∃ c,R A (gi xs ji) c∧AtH H b (o + ji.toNat * Enc.sz α) c:=by
  obtain ⟨p',cap',e,h1,h2,h3⟩:=h
  simp only [Value.slice.injEq] at e
  obtain ⟨rfl,rfl,rfl⟩:=e
  rcases h3 with rfl | ⟨b',o',cs,hp,hr,ha⟩
  · simp at hj; omega
  · simp only [Option.some.injEq,Addr.mk.injEq,and_true] at hp
    obtain ⟨rfl,rfl⟩:=hp
    obtain ⟨c,hc,hg⟩:=hr.get (gi_get hj)
    obtain ⟨d,t,f,e1,e2⟩:=ha
    exact ⟨c,hc,d,t,f,e1,fun j v hv=>by rw [Nat.add_assoc]; exact e2 _ _ (hg _ _ hv)⟩
theorem fa_R2 {e:TypeId} {p:Hp} (h:rowG (FA A) e v xs p):R2 A p xs v:=by
  rcases h with ⟨rfl,rfl,_⟩ | ⟨g,cap,cs,sp,rfl,hg,h3,h4,h5,h6⟩
  · exact ⟨none,0,rfl,by simp,by simp,.inl rfl⟩
  · refine ⟨_,cap,rfl,h3,h4,.inr ⟨g,0,cs,rfl,h6,_,e,_,hg,fun j u hj=>?_⟩⟩
    rw [Nat.zero_add,List.getElem?_toArray,List.getElem?_append_left (List.getElem?_eq_some_iff.1 hj).1]; exact hj
def Rd2 (S:As) (A:Hp) (xs:List α) (v:Value):Prop:=∀ w,S w→R2 A (hpOf w) xs v
theorem Rd2.arena (hA:Held (Sat w0 G) A) (h:R A xs [v]):Rd2 (Sat w0 G) A xs v:=fun w s=>(R2.of h).mono (Hp.le_refl _) (hA w s)
theorem Sat.absorb {C:Ch} (k j:Nat) (s:Sat w0 G w) (hk:G[k]? = some (fz A)) (hj:G[j]? = some C) (hne:k ≠ j):∃ h,(A.le h∧∃ p,C p∧p.le h)∧Sat w0 ((G.set k (fz h)).set j dead) w:=by
  have s1:=s.merge2 k j hk hj hne (fun r=>A.le r∧∃ p,C p∧p.le r) fun p q r a b d l1 l2=>by
    have:p = A:=a
    subst this
    exact ⟨l1,q,b,l2⟩
  have hkl:=(List.getElem?_eq_some_iff.1 hk).1
  have hk1:((G.set k (fun r=>A.le r∧∃ p,C p∧p.le r)).set j dead)[k]? = some (fun r=>A.le r∧∃ p,C p∧p.le r):=by rw [List.getElem?_set_ne hne.symm,List.getElem?_set_self hkl]
  obtain ⟨h,hh,s2⟩:=s1.freeze k hk1
  rw [List.set_comm _ _ hne.symm,List.set_set] at s2
  exact ⟨h,hh,s2⟩
theorem Sat.faUp {e:TypeId} (k:Nat) (hle:A.le A') (s:Sat w0 G w) (hk:G[k]? = some (rowG (FA A) e v xs)):Sat w0 (G.set k (rowG (FA A') e v xs)) w :=
  s.weaken k hk _ fun p hp=>by
    rcases hp with ⟨a,b,_⟩ | ⟨g,cap,cs,sp,h1,h2,h3,h4,h5,h6⟩
    · exact .inl ⟨a,b,by subst b; rfl⟩
    · exact .inr ⟨g,cap,cs,sp,h1,h2,h3,h4,h5,RF.mono hle h6⟩
theorem Sat.newArena (s:Sat w0 G w):∃ h:Hp,True∧Sat w0 (G ++ [fz h]) w:=by
  obtain ⟨h,_,s1⟩:=Sat.freeze (C:=dead) G.length (by simp) (s.addEmpty dead fun _=>trivial)
  exact ⟨h,trivial,by simpa using s1⟩
end
section
variable {P:Program} {n:Nat} {fr:Fr} {dst:Option Tmp} {ty:TypeId} {pos:String} {aft:Array Edge} {g:Option (Nat × Bool)} {S:As} {w0:World} {G:List Ch}
theorem Sd.appGB {α:Type} [Enc α] {Φ:Hp→List α→List Value→Prop} [PhM w0 Φ] (k:Nat) {C:Ch} (hk:G[k]? = some C) {x y:Operand} {t e:TypeId} {by':Nat} {z v:Value} {xs ys:List α} {q:Addr} {m c:Nat}
    (ht:slTy P t = some (e,Enc.sz α,by')) (hz:zeroOf P e = some z) (hzs:z.cells.size = Enc.sz α) (hx:ev fr x = some v) (hy:ev fr y = some (.slice (some q) m c))
    (hm:ys.length = m) (hlt:xs.length + ys.length < 1099511627776) (hbytes:(xs.length + m) * by' ≤ 140737488355328)
    (hC:∀ w,Sat w0 G w→∃ news,(∀ p,C p→p.le (hpOf w)→(∀ b o,p b = some o→w0.heap.size ≤ b)→rowAndG Φ e v xs ys news p)∧(∀ j u,news[j]? = some u→w.cell? (q.add j) = some u)∧news.length = ys.length * Enc.sz α∧∀ u ∈ news,u.oneCell' = true) :
    Sd P n ⟨dst,.call { callee:=.builtin .append,args:=#[x,y],argTypes:=#[t,t] },ty,pos,aft,g⟩ fr (Sat w0 G) (fun q=>rowV q (xs ++ ys).length) (fun q=>Sat w0 (G.set k (rowG Φ e (rowV q (xs ++ ys).length) (xs ++ ys)))):=fun a w kn s=>by
  have h63:xs.length + m ≤ maxLen:=by unfold maxLen; omega
  obtain ⟨news,hC,h1,h2,h3⟩:=hC w s
  have s':Sat w0 (G.set k (fun p=>C p∧p.le (hpOf w))) w:=by
    obtain ⟨e1,own,h2⟩:=s
    refine ⟨e1,own,fun j E hj=>?_⟩
    by_cases hjk:k = j
    · subst hjk
      rw [List.getElem?_set_self (List.getElem?_eq_some_iff.1 hk).1] at hj
      have:=(Option.some.inj hj).symm; subst this
      obtain ⟨p,hp,hb⟩:=h2 k C hk
      exact ⟨p,⟨hp,fun b o e=>(hb b o e).2.2⟩,hb⟩
    · rw [List.getElem?_set_ne hjk] at hj
      exact h2 j E hj
  have hkl:k < G.length:=(List.getElem?_eq_some_iff.1 hk).1
  obtain ⟨v',w',hr,hs⟩:=s'.appendG (ty:=ty) (k:=k) (List.getElem?_set_self hkl) ht hz hzs (fun p hp hb=>hC p hp.1 hp.2 hb) hm h1 h2 h3 hbytes h63 (c:=c)
  rw [run_builtin_append kn hx hy hr]
  rw [List.set_set] at hs
  obtain ⟨p,hp,_⟩:=hs.get k (List.getElem?_set_self hkl)
  obtain ⟨q',hq⟩:=rowG_shape hp
  exact ⟨q',hq,by show Sat w0 (G.set k (rowG Φ e (rowV q' (xs ++ ys).length) (xs ++ ys))) w'; rw [← hq]; exact hs⟩
theorem Sd.appFA {α:Type} [Enc α] {A:Hp} (k:Nat) {x y:Operand} {t e:TypeId} {by':Nat} {z v vy:Value} {xs:List α} (ys:List α)
    (hk:G[k]? = some (rowG (FA A) e v xs)) (hR:Rd2 (Sat w0 G) A ys vy)
    (ht:slTy P t = some (e,Enc.sz α,by')) (hz:zeroOf P e = some z) (hzs:z.cells.size = Enc.sz α) (hx:ev fr x = some v) (hy:ev fr y = some vy)
    (hlt:xs.length + ys.length < 1099511627776) (hbytes:(xs.length + ys.length) * by' ≤ 140737488355328) :
    Sd P n ⟨dst,.call { callee:=.builtin .append,args:=#[x,y],argTypes:=#[t,t] },ty,pos,aft,g⟩ fr (Sat w0 G) (fun q=>rowV q (xs ++ ys).length) (fun q=>Sat w0 (G.set k (rowG (FA A) e (rowV q (xs ++ ys).length) (xs ++ ys)))):=fun a w kn s=>by
  obtain ⟨p',cap',e',s1,s2,s3⟩:=hR w s
  subst e'
  cases p' with
  | none =>
    have hnil:ys = []:=by
      rcases s3 with h | ⟨b,o,cs,hq,_⟩
      · exact h
      · cases hq
    subst hnil
    obtain ⟨p,hp,_⟩:=s.get k hk
    obtain ⟨q',hq⟩:=rowG_shape hp
    subst hq
    obtain ⟨hu,i,hi,_,_⟩:=slTy_spec ht
    have hf:=rowG_fits hp
    have hr:(Builtin.append_ #[t,t] ty #[rowV q' xs.length,.slice none ([]:List α).length cap']).run P w = .ok (rowV q' xs.length) w:=by
      obtain ⟨o,cc⟩:=q'
      have h1:xs.length ≤ cc:=hf.2.1
      cases o <;> simp [rowV,Builtin.append_,run_underlying hu,sizeOf,typeInfo,hi,Builtin.lenOf,Builtin.firstCells,storeCells,h1]
    rw [run_builtin_append kn hx hy hr]
    refine ⟨q',by simp,?_⟩
    simp only [List.append_nil]
    have e1:(G.set k (rowG (FA A) e (rowV q' xs.length) xs)) = G:=by
      obtain ⟨hl,he⟩:=List.getElem?_eq_some_iff.1 hk
      exact he ▸ List.set_getElem_self hl
    rw [e1]; exact s
  | some q =>
    exact Sd.appGB (Φ:=FA A) k hk ht hz hzs hx hy rfl hlt hbytes (fun w' s'=>by
      obtain ⟨p2,c2,e2,t1,t2,t3⟩:=hR w' s'
      simp only [Value.slice.injEq] at e2
      obtain ⟨rfl,_,rfl⟩:=e2
      rcases t3 with rfl | ⟨b,o,cs,hq,hr,ha⟩
      · refine ⟨[],fun p hp _ _=>?_,fun j u hj=>by simp at hj,by simp,fun u hu=>by cases hu⟩
        rcases hp with ⟨rfl,rfl,h⟩ | ⟨g,cap,cs,sp,hv,hg,h3,h4,h5,h6⟩
        · exact .inl ⟨rfl,rfl,rfl⟩
        · exact .inr ⟨g,cap,cs,sp,hv,hg,h3,h4,h5,RF.length h6,by simpa using h6⟩
      · cases hq
        refine ⟨cs,fun p hp _ _=>?_,fun j u hj=>by rw [add_lit]; exact ha.cell hj,hr.length,hr.one⟩
        rcases hp with ⟨rfl,rfl,h⟩ | ⟨g,cap,cs',sp,hv,hg,h3,h4,h5,h6⟩
        · exact .inl ⟨rfl,rfl,hr⟩
        · exact .inr ⟨g,cap,cs',sp,hv,hg,h3,h4,h5,RF.length h6,RF.append h6 hr⟩) a w kn s
theorem Sd.absorb {o:Oper} {κ:Type} {C:Ch} {A:Hp} {G1:List Ch} {F:Hp→List Ch} {val:Hp→κ→Value} {S':Hp→κ→As} (pre:∀ w,Sat w0 G w→Sat w0 G1 w) (kA j:Nat) (hk:G1[kA]? = some (fz A)) (hj:G1[j]? = some C) (hne:kA ≠ j)
    (up:∀ h,A.le h→∀ w,Sat w0 ((G1.set kA (fz h)).set j dead) w→Sat w0 (F h) w) (h:∀ i:Hp,(A.le i∧∃ p,C p∧p.le i)→Sd P n o fr (Sat w0 (F i)) (val i) (S' i)) :
    Sd P n o fr (Sat w0 G) (fun z:Hp × κ=>val z.1 z.2) (fun z=>S' z.1 z.2):=fun a w k s=>by
  obtain ⟨i,hi,s0⟩:=Sat.absorb kA j (pre w s) hk hj hne
  have:=h i hi a w k (up i hi.1 w s0)
  revert this
  generalize (execOp a.eval o).run P w = r
  intro this
  cases r with
  | ok x w' =>
    cases x <;> simp only [solidRes] at this ⊢
    case value u=>obtain ⟨x,h1,h2⟩:=this; exact ⟨(i,x),h1,h2⟩
    case skip=>obtain ⟨x,h1,h2⟩:=this; exact ⟨(i,x),h1,h2⟩
    case enter f args=>exact this.mono fun e w'' ⟨x,h1,h2⟩=>⟨(i,x),h1,h2⟩
  | halt x w'=>exact this.elim
end
section
variable {S:As} {α:Type} [Enc α] {A:Hp} {xs:List α}
end
end Go.Vg
set_option linter.unusedSimpArgs false
set_option linter.unusedVariables false
namespace Go.Vg
open Go.RowKit (Below)
open Enc (R)
open Go.MapKept
section
variable {β:Type}
def keys (L:List (Int × β)):List Int:=L.map (·.1)
end
def kvv (L:List (Int × Value)):List (Value × Value):=L.map fun p=>(.int .i64 p.1,p.2)
def mapL (b:Nat) (L:List (Int × Value)):Ch:=fun h=>∃ es clock,h b = some (.map es clock)∧es.toList.map (fun e=>(e.key,e.val)) = kvv L∧(keys L).Nodup
section
variable {P:Program} {n:Nat} {fr:Fr} {dst:Option Tmp} {ty:TypeId} {pos:String} {aft:Array Edge} {g:Option (Nat × Bool)} {S:As} {w0:World} {G:List Ch}
theorem Sd.makeMapL {t:TypeId}:Sd P n ⟨dst,.makeMap t none,ty,pos,aft,g⟩ fr (Sat w0 G) (fun b:Nat=>.map (some b)) (fun b=>Sat w0 (G ++ [mapL b []])):=fun a w k s=>by
  have:(execOp a.eval ⟨dst,.makeMap t none,ty,pos,aft,g⟩).run P w = .ok (.value (.map (some w.heap.size))) (w.alloc (.map #[] 0)):=by
    simp [execOp,Instr.makeMap]
  rw [this]
  refine ⟨w.heap.size,rfl,s.new (Ext.alloc w _) _ (fun b=>if b = w.heap.size then some (.map #[] 0) else none) ⟨#[],0,by simp,rfl,by simp [keys]⟩ (fun b o hb=>?_) (fun b o hb=>?_)⟩
  · dsimp only at hb
    split at hb
    · rename_i hb'; subst hb'; cases hb
      exact (heap_alloc w _).1
    · cases hb
  · split at hb
    · omega
    · cases hb
end
end Go.Vg
set_option linter.unusedVariables false
set_option linter.unusedSimpArgs false
namespace Go.Vg
open Go.RowKit (Below)
open Enc (R)
section
variable {α β:Type}
end
section
variable {w0:World} {G:List Ch} {P:Program} {n:Nat} {fr:Fr} {dst:Option Tmp} {ty:TypeId} {pos:String} {aft:Array Edge} {gd:Option (Nat × Bool)}
end
theorem star_swap {A C X:Ch} {h:Hp}:star A (star C X) h→star C (star A X) h:=by
  rintro ⟨p,r,hp,⟨c,x,hc,hx,hd,l1,l2⟩,hd2,l3,l4⟩
  have dis:∀ (u v:Hp),(∀ b,p b = none ∨ r b = none)→u.le r→∀ b,p b = none ∨ u b = none:=fun u v hd hu b=>by
    rcases hd b with h | h
    · exact .inl h
    · right
      cases e:u b with
      | none=>rfl
      | some o=>rw [hu b o e] at h; cases h
  refine ⟨c,p.over x,hc,⟨p,x,hp,hx,dis x x hd2 l2,Hp.le_over _ _,fun b o e=>?_⟩,fun b=>?_,fun b o e=>l4 b o (l1 b o e),Hp.over_le l3 fun b o e=>l4 b o (l2 b o e)⟩
  · rcases dis x x hd2 l2 b with h1 | h1
    · unfold Hp.over; rw [h1]; exact e
    · rw [h1] at e; cases e
  · rcases dis c c hd2 l1 b with h1 | h1
    · rcases hd b with h2 | h2
      · exact .inl h2
      · right; unfold Hp.over; rw [h1]; exact h2
    · exact .inl h1
theorem star_monoR {A B C:Ch} {h:Hp} (hbc:∀ p,B p→C p):star A B h→star A C h:=fun ⟨p,q,a,b,c⟩=>⟨p,q,a,hbc q b,c⟩
theorem stars_out:∀ {A B:List Ch} {C:Ch} {h:Hp},stars (A ++ C :: B) h→star C (stars (A ++ B)) h
  | [],B,C,h,s=>s
  | a :: A,B,C,h,s=>star_swap (star_monoR (fun p hp=>stars_out (A:=A) hp) s)
theorem stars_in:∀ {A B:List Ch} {C:Ch} {h:Hp},star C (stars (A ++ B)) h→stars (A ++ C :: B) h
  | [],B,C,h,s=>s
  | a :: A,B,C,h,s=>star_monoR (fun p hp=>stars_in (A:=A) hp) (star_swap s)
section
variable {w0 w:World} {G:List Ch}
end
section
variable {P:Program} {n:Nat} {fr:Fr} {dst:Option Tmp} {ty:TypeId} {pos:String} {aft:Array Edge} {g:Option (Nat × Bool)} {S:As} {w0:World} {G:List Ch}
theorem Sd.callV {f:FuncId} {cs:List Value} {xo:Operand} {xs:List Operand} {ts:Array TypeId} {vs:List Value} (he:Ent P f) (hv:ev fr xo = some (.func (.func f) #[] cs.toArray)) (hx:evs fr xs = some vs) {ι:Type} {val:ι→Value} {S':ι→As}
    (hc:∀ w,S w→Calls P f (vs ++ cs).toArray w (fun e w'=>∃ i,e = .returned (val i)∧S' i w')) :
    Sd P n ⟨dst,.call { callee:=.value xo,args:=xs.toArray,argTypes:=ts },ty,pos,aft,g⟩ fr S val S':=fun a w k s=>by
  rw [run_enterV he hv hx k,show vs.toArray ++ cs.toArray = (vs ++ cs).toArray by simp]
  exact hc w s
end
end Go.Vg
set_option linter.unusedVariables false
namespace Go.Vg
open Enc (R)
open Go
variable {P:Program} {n:Nat} {fr:Fr} {S:As} {dst:Option Tmp} {ty:TypeId} {pos:String} {aft:Array Edge} {g:Option (Nat × Bool)}
end Go.Vg
set_option linter.unusedSimpArgs false
set_option linter.unusedVariables false
namespace Go.Vg
def uw (a:Int):Int:=a % 18446744073709551616
theorem wrap_uw (a:Int):IntKind.u64.wrap a = uw a:=by simp [IntKind.wrap,IntKind.bits,IntKind.signed,uw]
theorem uw_id {a:Int} (h:0 ≤ a∧a < 18446744073709551616):uw a = a:=by unfold uw; omega
section
variable {P:Program} {n:Nat} {fr:Fr} {dst:Option Tmp} {ty:TypeId} {pos:String} {aft:Array Edge} {g:Option (Nat × Bool)} {xt yt:TypeId} {x y:Operand} {a b:Int}
theorem Pu.ushr {kk:IntKind} (hx:ev fr x = some (.int .u64 a)) (hy:ev fr y = some (.int kk b)) (h:0 ≤ b∧b ≤ 64):Pu P n ⟨dst,.binOp .shr xt x y yt,ty,pos,aft,g⟩ fr (.int .u64 (a / 2 ^ b.toNat)):=fun ac kn w=>by
  have h2:=Go.shift_shr_any .u64 kk a b h.1
  have h3:min b.toNat 64 = b.toNat:=by omega
  simp [execOp,kn.ev hx,kn.ev hy,binOp,eqGuard,h2,IntKind.bits,h3]
theorem wrap_u8 (a:Int):IntKind.u8.wrap a = ((UInt8.ofNat (a % 256).toNat).toNat:Int):=by
  simp [IntKind.wrap,IntKind.bits,IntKind.signed]; omega
theorem Pu.convB {s d:TypeId} {k:IntKind} (hs:(P.underlying s).isSome = true) (hd:P.underlying d = some (.int .u8)) (hx:ev fr x = some (.int k a)):Pu P n ⟨dst,.convert s d x,ty,pos,aft,g⟩ fr (.int .u8 ((UInt8.ofNat (a % 256).toNat).toNat:Int)):=by
  have:=Pu.conv (n:=n) (dst:=dst) (ty:=ty) (pos:=pos) (aft:=aft) (g:=g) hs hd hx
  rwa [wrap_u8] at this
theorem wrap8_id {a:Int} (h:0 ≤ a∧a < 256):IntKind.u8.wrap a = a:=by
  simp [IntKind.wrap,IntKind.bits,IntKind.signed]; omega
theorem bo8 (p q:UInt8):(BitVec.ofInt 8 (p.toNat:Int) ||| BitVec.ofInt 8 (q.toNat:Int)).toNat = (p ||| q).toNat:=by
  have e:∀ r:UInt8,BitVec.ofInt 8 (r.toNat:Int) = r.toBitVec:=fun r=>BitVec.eq_of_toNat_eq (by have:=r.toNat_lt; simp)
  rw [e,e]; rfl
theorem Pu.orB {p q:UInt8} (hx:ev fr x = some (.int .u8 (p.toNat:Int))) (hy:ev fr y = some (.int .u8 (q.toNat:Int))):Pu P n ⟨dst,.binOp .or xt x y yt,ty,pos,aft,g⟩ fr (.int .u8 ((p ||| q).toNat:Int)):=Pu.bin hx hy (by
  show some (Value.int .u8 (IntKind.u8.wrap ((BitVec.ofInt 8 (p.toNat:Int) ||| BitVec.ofInt 8 (q.toNat:Int)).toNat))) = _
  rw [bo8]
  have h:(p ||| q).toNat < 256:=(p ||| q).toNat_lt
  rw [wrap8_id (by omega)])
theorem bx64 (p q:UInt64):(BitVec.ofInt 64 (p.toNat:Int) ^^^ BitVec.ofInt 64 (q.toNat:Int)).toNat = (p ^^^ q).toNat:=by
  have e:∀ r:UInt64,BitVec.ofInt 64 (r.toNat:Int) = r.toBitVec:=fun r=>BitVec.eq_of_toNat_eq (by have:=r.toNat_lt; simp)
  rw [e,e]; rfl
theorem Pu.xorH {p q:UInt64} (hx:ev fr x = some (.int .u64 (p.toNat:Int))) (hy:ev fr y = some (.int .u64 (q.toNat:Int))):Pu P n ⟨dst,.binOp .xor xt x y yt,ty,pos,aft,g⟩ fr (.int .u64 ((p ^^^ q).toNat:Int)):=Pu.bin hx hy (by
  show some (Value.int .u64 (IntKind.u64.wrap ((BitVec.ofInt 64 (p.toNat:Int) ^^^ BitVec.ofInt 64 (q.toNat:Int)).toNat))) = _
  rw [bx64,wrap_uw,uw_id (by have:=(p ^^^ q).toNat_lt; omega)])
theorem Pu.mulH {p q:UInt64} (hx:ev fr x = some (.int .u64 (p.toNat:Int))) (hy:ev fr y = some (.int .u64 (q.toNat:Int))):Pu P n ⟨dst,.binOp .mul xt x y yt,ty,pos,aft,g⟩ fr (.int .u64 ((p * q).toNat:Int)):=Pu.bin hx hy (by
  show some (Value.int .u64 (IntKind.u64.wrap ((p.toNat:Int) * (q.toNat:Int)))) = _
  rw [wrap_uw]
  have:((p * q).toNat:Int) = uw ((p.toNat:Int) * (q.toNat:Int)):=by
    rw [UInt64.toNat_mul]
    unfold uw
    rw [← Int.natCast_mul]
    exact Int.natCast_emod _ _
  rw [this])
theorem Pu.convBH {s d:TypeId} {p:UInt8} (hs:(P.underlying s).isSome = true) (hd:P.underlying d = some (.int .u64)) (hx:ev fr x = some (.int .u8 (p.toNat:Int))):Pu P n ⟨dst,.convert s d x,ty,pos,aft,g⟩ fr (.int .u64 (p.toUInt64.toNat:Int)):=by
  have:=Pu.conv (n:=n) (dst:=dst) (ty:=ty) (pos:=pos) (aft:=aft) (g:=g) hs hd hx
  rw [wrap_uw,uw_id (by have:=p.toNat_lt; omega)] at this
  rw [UInt8.toNat_toUInt64]; exact this
theorem Pu.mulHc {p q:UInt64} {c:Int} (hx:ev fr x = some (.int .u64 (p.toNat:Int))) (hy:ev fr y = some (.int .u64 c)) (hc:(q.toNat:Int) = c):Pu P n ⟨dst,.binOp .mul xt x y yt,ty,pos,aft,g⟩ fr (.int .u64 ((p * q).toNat:Int)):=Pu.mulH hx (by rw [hy,hc])
theorem Pu.orBc {p q:UInt8} {c:Int} (hx:ev fr x = some (.int .u8 (p.toNat:Int))) (hy:ev fr y = some (.int .u8 c)) (hc:(q.toNat:Int) = c):Pu P n ⟨dst,.binOp .or xt x y yt,ty,pos,aft,g⟩ fr (.int .u8 ((p ||| q).toNat:Int)):=Pu.orB hx (by rw [hy,hc])
theorem Pu.shrHc {p q:UInt64} {kk:IntKind} {c:Int} (hx:ev fr x = some (.int .u64 (p.toNat:Int))) (hy:ev fr y = some (.int kk c)) (hc:(q.toNat:Int) = c) (hq:q.toNat < 64):Pu P n ⟨dst,.binOp .shr xt x y yt,ty,pos,aft,g⟩ fr (.int .u64 ((p >>> q).toNat:Int)):=by
  have h:=Pu.ushr (P:=P) (n:=n) (dst:=dst) (ty:=ty) (pos:=pos) (aft:=aft) (g:=g) (xt:=xt) (yt:=yt) hx hy (by omega)
  have e:((p >>> q).toNat:Int) = (p.toNat:Int) / 2 ^ c.toNat:=by
    rw [UInt64.toNat_shiftRight,Nat.mod_eq_of_lt hq,Nat.shiftRight_eq_div_pow,← hc,Int.toNat_natCast]
    exact Int.natCast_ediv _ _
  rw [e]; exact h
end
end Go.Vg
set_option linter.unusedSimpArgs false
set_option linter.unusedVariables false
namespace Go.Vg
open Go.RowKit (Below)
open Enc (R)
open Go.MapKept
def WF (ro:Option Nat):Fence:={ Fence.wide with round:=ro }
def noDef (a:Act):Act:={ a with defers:=[] }
structure KD (N:Nat) (ds:List Deferred) (fr:Fr) (a:Act):Prop where
  k:Knows N fr (noDef a)
  d:a.defers = ds
theorem eval_noDef (a:Act):(noDef a).eval = a.eval:=by funext x; cases x <;> rfl
theorem callsWF {ro:Option Nat} {n:Nat} {P:Program} {f:FuncId} {args:Array Value} {w:World} {R:Ending→World→Prop} (h:Calls P f args w R):CallsIn (WF ro) n P f args w R :=
  (callsIn_wide (n:=n)).2 h
theorem KD.putF {N:Nat} {ds:List Deferred} {fr:Fr} {a:Act} (h:KD N ds fr a) {d:Option Nat} (hd:dOk N d = true) (v:Value):KD N ds (putF d v fr) (a.put d v):=by
  refine ⟨?_,?_⟩
  · have:=h.k.putF hd v
    cases d <;> exact this
  · cases d <;> exact h.d
theorem notDef {P:Program} {ρ:Operand→Value} {o:Oper} {w:World} {ι:Type} {val:ι→Value} {S':ι→As} (h:solidRes P val S' ((execOp ρ o).run P w)):∀ c,o.op ≠ .defer c:=by
  intro c e
  unfold execOp at h
  rw [e] at h
  simp only [Sem.run_bind] at h
  cases hr:(resolve ρ c o.type).run P w with
  | ok d w'=>rw [hr] at h; simp [Result.andThen,solidRes] at h
  | halt x w'=>rw [hr] at h; simp [Result.andThen,solidRes] at h

def TR (ro:Option Nat) (P:Program) (N:Nat) (c:Code) (ds:List Deferred) (fr:Fr) (S:As) (Q:Po):Prop:=∀ a w,KD N ds fr a→S w→c.wpIn (WF ro) 0 P Q a w
def RR (ro:Option Nat) (P:Program) (N:Nat) (ops:Array Oper) (Q:Po) (l:List Oper) (ds:List Deferred) (fr:Fr) (S:As):Prop:=∀ a w,KD N ds fr a→S w→wpListIn (WF ro) 0 P ops Q l a w
def CR (N:Nat) (K:Act→World→Prop) (ds:List Deferred) (fr:Fr) (S:As):Prop:=∀ a w,KD N ds fr a→S w→K a w
section
variable {ro:Option Nat} {P:Program} {N:Nat} {ops:Array Oper} {Q:Po} {rest:List Oper} {ds:List Deferred} {fr:Fr} {S:As} {o:Oper} {K:Act→World→Prop}
theorem RR.solid {ι:Type} {val:ι→Value} {S':ι→As} (h:Sd P N o fr S val S') (hg:gval ops fr o.guard = some true) (hd:dOk N o.dst = true)
    (hr:∀ i,RR ro P N ops Q rest ds (putF o.dst (val i) fr) (S' i)):RR ro P N ops Q (o :: rest) ds fr S:=by
  intro a w k s
  have hw:Region.wanted o (yielded ops a.tmps) = true:=wanted_of (a:=noDef a) k.k hg
  unfold wpListIn
  rw [if_pos hw]
  have:=h (noDef a) w k.k s
  rw [eval_noDef] at this
  refine ⟨fun _ _=>trivial,?_⟩
  rw [Oper.semAt_eq _ _ _ (notDef this)]
  revert this
  generalize (execOp a.eval o).run P w = r
  intro h
  cases r with
  | ok x w' =>
    cases x <;> simp only [solidRes,Oper.uponIn] at h ⊢
    case value u=>obtain ⟨i,rfl,hs⟩:=h; exact hr i _ _ (k.putF hd _) hs
    case skip=>obtain ⟨i,hu,hs⟩:=h; rw [← hu]; exact hr i _ _ (k.putF hd _) hs
    case enter f args=>exact ⟨fun h=>(by cases h),callsWF (h.mono fun e w'' ⟨i,he,hs⟩=>by subst he; exact hr i _ _ (k.putF hd _) hs)⟩
  | halt x w'=>exact h.elim
theorem RR.q {v:Value} {w0:World} {G:List Ch} (h:Qt P N o fr (Sat w0 G) v) (hg:gval ops fr o.guard = some true) (hd:dOk N o.dst = true) (hr:RR ro P N ops Q rest ds (Vg.putF o.dst v fr) (Sat w0 G)):RR ro P N ops Q (o :: rest) ds fr (Sat w0 G) :=
  RR.solid (h.sd (ClE.sat w0 G) (fun _ s=>s)) hg hd fun _=>hr
theorem RR.p {v:Value} (h:Pu P N o fr v) (hg:gval ops fr o.guard = some true) (hd:dOk N o.dst = true) (hr:RR ro P N ops Q rest ds (Vg.putF o.dst v fr) S):RR ro P N ops Q (o :: rest) ds fr S:=by
  refine RR.solid (val:=fun _:Unit=>v) (S':=fun _=>S) (fun a w k s=>?_) hg hd fun _=>hr
  rw [h a k w]; exact ⟨(),rfl,s⟩
theorem RR.round {l:Nat} {ι:Type} {val:ι→Value} {S':ι→As} (hnd:∀ c,o.op ≠ .defer c)
    (h:∀ a w,Knows N fr a→S w→∃ fn tmps assign body,(execOp a.eval o).run P w = .ok (.round l fn tmps assign body) w∧RoundIn (WF ro) 0 P l fn tmps assign body w (fun e w'=>∃ i,e = .returned (val i)∧S' i w'))
    (hg:gval ops fr o.guard = some true) (hd:dOk N o.dst = true)
    (hr:∀ i,RR ro P N ops Q rest ds (Vg.putF o.dst (val i) fr) (S' i)):RR ro P N ops Q (o :: rest) ds fr S:=by
  intro a w k s
  have hw:Region.wanted o (yielded ops a.tmps) = true:=wanted_of (a:=noDef a) k.k hg
  unfold wpListIn
  rw [if_pos hw]
  obtain ⟨fn,tmps,assign,body,h1,h2⟩:=h (noDef a) w k.k s
  rw [eval_noDef] at h1
  refine ⟨fun _ _=>trivial,?_⟩
  rw [Oper.semAt_eq _ _ _ hnd,h1]
  exact ⟨fun h=>(by cases h),h2.mono fun e w' ⟨i,he,hs⟩=>by subst he; exact hr i _ _ (k.putF hd _) hs⟩
theorem TR.skip (h:CR N (Q .normal) ds fr S):TR ro P N .skip ds fr S Q:=fun a w k s=>wpIn_skip (h a w k s)
end
section
variable {ro:Option Nat} {P:Program} {n:Nat} {ops:Array Oper} {Q:Po} {kd:Nat→Kd} {Cw:As} {ds:List Deferred}
end
section
variable {w0 w:World} {G:List Ch}
end
theorem TR.enter {P:Program} {f:FuncId} {fn:Func} {c:Code} {args:List Value} {w:World} {R:Ending→World→Prop} {S:As} (hf:P.funcs[f]? = some fn) (hb:fn.body = some c) (hn:Nat.ble args.length fn.ntmps = true) (s:S w)
    (h:TR none P fn.ntmps c [] (frameOf 0 args) S (bodyPostM (WF none) 0 P fn R)):Calls P f args.toArray w R:=by
  refine (callsIn_wide (n:=0)).1 (callsIn_of_wp_marks hf hb trivial (h _ w ⟨⟨?_,rfl,fun i v hi=>?_⟩,rfl⟩ s) rfl)
  · have:args.length ≤ fn.ntmps:=by simpa using hn
    simp [noDef]; omega
  · obtain ⟨_,h2⟩:=look_frameOf args 0 i v hi
    simp only [Nat.sub_zero] at h2
    have hlt:=(List.getElem?_eq_some_iff.1 h2).1
    show (args.toArray ++ _)[i]? = _
    rw [Array.getElem?_append_left (by simpa using hlt)]
    simpa using h2
section
variable {P:Program} {N:Nat} {ds:List Deferred} {fr:Fr} {w0:World} {G:List Ch} {fn:Func} {R:Ending→World→Prop}
end
end Go.Vg
namespace Go.Vg
section
variable {ro:Option Nat} {P:Program} {N:Nat} {ops:Array Oper} {Q:Po} {rest:List Oper} {ds:List Deferred} {fr:Fr} {S:As} {K:Act→World→Prop}
end
end Go.Vg
set_option linter.unusedSimpArgs false
set_option linter.unusedVariables false
namespace Go.Vg
open Go.RowKit (Below)
open Enc (R)

theorem setCells_blk (b:Nat) (e:TypeId) (m:Nat × Nat):∀ (vs:List Value) (o:Nat) (cur:List Value) (w:World),w.heap[b]? = some (.cells cur.toArray e m)→o + vs.length ≤ cur.length →
    (w.setCells b o vs).heap[b]? = some (.cells (cur.take o ++ vs ++ cur.drop (o + vs.length)).toArray e m)
  | [],o,cur,w,h,_=>by simp only [World.setCells,List.length_nil,Nat.add_zero,List.append_nil,List.take_append_drop]; exact h
  | v :: r,o,cur,w,h,hl=>by
    simp only [List.length_cons] at hl
    have hb:b < w.heap.size:=(Array.getElem?_eq_some_iff.1 h).1
    have h1:(w.setCell ⟨b,o,none⟩ v).heap[b]? = some (.cells (cur.set o v).toArray e m):=by
      simp only [World.setCell,Array.getElem?_modify,if_true,h,Option.map_some]
      simp [List.setIfInBounds_toArray]
    have h2:=setCells_blk b e m r (o + 1) (cur.set o v) (w.setCell ⟨b,o,none⟩ v) h1 (by simp; omega)
    rw [World.setCells,h2]
    congr 3
    have e1:(cur.set o v).take (o + 1) = cur.take o ++ [v]:=by
      rw [List.take_add_one,List.take_set_of_le (Nat.le_refl o),List.getElem?_set_self (by omega)]; rfl
    have e2:(cur.set o v).drop (o + 1 + r.length) = cur.drop (o + (r.length + 1)):=by
      rw [List.drop_set_of_lt (by omega)]; congr 1; omega
    rw [e1,e2]
    simp
theorem setCells_other (b k:Nat) (hne:k ≠ b):∀ (vs:List Value) (o:Nat) (w:World),(w.setCells b o vs).heap[k]? = w.heap[k]?
  | [],_,_=>rfl
  | v :: r,o,w=>by
    rw [World.setCells,setCells_other b k hne r (o + 1)]
    simp only [World.setCell,Array.getElem?_modify,if_neg (Ne.symm hne)]
theorem setCells_same (b:Nat):∀ (vs:List Value) (o:Nat) (w:World),(w.setCells b o vs).heap.size = w.heap.size∧(w.setCells b o vs).os = w.os∧(w.setCells b o vs).tape = w.tape∧(w.setCells b o vs).output = w.output
  | [],_,_=>⟨rfl,rfl,rfl,rfl⟩
  | v :: r,o,w=>by
    rw [World.setCells]
    have h:=setCells_same b r (o + 1) (w.setCell ⟨b,o,none⟩ v)
    simpa [World.setCell] using h

def unmarked (m:Nat × Nat) (n:Nat):Prop:=∀ o,o < n→¬ (m.1 ≤ o∧o < m.2)
def rowM {α:Type} [Enc α] (e:TypeId) (v:Value) (xs:List α):Ch:=fun h =>
  (v = .slice none 0 0∧xs = []) ∨
  ∃ g cap cs sp m,v = .slice (some ⟨g,0,none⟩) xs.length cap∧h g = some (.cells (cs ++ sp).toArray e m)∧xs.length ≤ cap∧cap ≤ maxLen∧(cs ++ sp).length = cap * Enc.sz α∧RF nilH xs cs∧unmarked m (cap * Enc.sz α)
section
variable {α:Type} [Enc α]
theorem rowM_R {e:TypeId} {v:Value} {xs:List α} {h:Hp}:rowM e v xs h→R h xs [v]
  | .inl ⟨h1,h2⟩=>by subst h1; subst h2; exact ⟨none,0,rfl,by simp,by simp,.inl rfl⟩
  | .inr ⟨g,cap,cs,sp,m,h1,h2,h3,h4,h5,h6,_⟩=>by
    subst h1
    exact ⟨_,cap,rfl,h3,h4,.inr ⟨g,0,cs,rfl,h6.mono (nilH_le _),⟨_,e,_,h2,fun j v hj=>by
      rw [Nat.zero_add,List.getElem?_toArray,List.getElem?_append_left (List.getElem?_eq_some_iff.1 hj).1]
      exact hj⟩⟩⟩
theorem rowM_fits {e:TypeId} {q:Option Nat × Nat} {m:Nat} {xs:List α} {p:Hp} (hp:rowM e (rowV q m) xs p):m = xs.length∧m ≤ q.2∧q.2 ≤ maxLen:=by
  rcases hp with ⟨hv,rfl⟩ | ⟨g,cap,cs,sp,mm,hv,_,hle,hm,_⟩
  · simp only [rowV,Value.slice.injEq] at hv
    obtain ⟨_,rfl,h2⟩:=hv
    rw [h2]; exact ⟨rfl,Nat.le_refl _,Nat.zero_le _⟩
  · simp only [rowV,Value.slice.injEq] at hv
    obtain ⟨_,rfl,h2⟩:=hv
    rw [h2]; exact ⟨rfl,hle,hm⟩
theorem rowM_shape {e:TypeId} {v:Value} {xs:List α} {p:Hp} (h:rowM e v xs p):∃ q:Option Nat × Nat,v = .slice (q.1.map fun g=>⟨g,0,none⟩) xs.length q.2:=by
  rcases h with ⟨rfl,rfl⟩ | ⟨g,cap,cs,sp,m,rfl,_⟩
  · exact ⟨(none,0),rfl⟩
  · exact ⟨(some g,cap),rfl⟩
variable {w0 w:World} {G:List Ch}
theorem Sat.row_fitsM {k m:Nat} {e:TypeId} {q:Option Nat × Nat} {xs:List α} (h:Sat w0 G w) (hk:G[k]? = some (rowM e (rowV q m) xs)):m = xs.length∧m ≤ q.2∧q.2 ≤ maxLen:=by
  obtain ⟨p,hp,_⟩:=h.get k hk
  exact rowM_fits hp
theorem Sat.relenM {e:TypeId} {q:Option Nat × Nat} {m:Nat} {xs:List α} (k:Nat) (h:Sat w0 G w) (hk:G[k]? = some (rowM e (rowV q m) xs)):Sat w0 (G.set k (rowM e (rowV q xs.length) xs)) w :=
  h.weaken k hk _ fun p hp=>by rw [← (h.row_fitsM hk).1]; exact hp
theorem Sat.nilRowM (e:TypeId) (h:Sat w0 G w):Sat w0 (G ++ [rowM e (rowV (none,0) 0) ([]:List α)]) w:=h.addEmpty _ (fun p=>.inl ⟨rfl,rfl⟩)
theorem Rd.ofRowM (k:Nat) {e:TypeId} {v:Value} {xs:List α} (hk:G[k]? = some (rowM e v xs)):Rd (Sat w0 G) xs [v]:=fun w s=>by
  obtain ⟨p,hp,hl,_⟩:=s.get k hk
  exact Enc.mono hl (rowM_R hp)
theorem Sat.appendM [Flat α] {P:Program} (s:Sat w0 G w) {k:Nat} {t e ty:TypeId} {by':Nat} {z:Value} {v:Value} {xs ys:List α} {news:List Value} (hk:G[k]? = some (rowM e v xs))
    (ht:slTy P t = some (e,Enc.sz α,by')) (hz:zeroOf P e = some z) (hzs:z.cells.size = Enc.sz α) (hy:RF nilH ys news) {q:Addr} {m c:Nat} (hm:ys.length = m) (hnews:∀ j u,news[j]? = some u→w.cell? (q.add j) = some u)
    (hbytes:(xs.length + m) * by' ≤ 140737488355328) (h63:xs.length + m ≤ maxLen) :
    ∃ v' w',(Builtin.append_ #[t,t] ty #[v,.slice (some q) m c]).run P w = .ok v' w'∧Sat w0 (G.set k (rowM e v' (xs ++ ys))) w':=by
  obtain ⟨hu,i,hi,hsz',hby⟩:=slTy_spec ht
  subst hby
  obtain ⟨i',hi',hz'⟩:=Option.bind_eq_some_iff.1 hz
  rw [hi] at hi'; cases hi'
  have h63':((xs.length + m:Nat):Int) ≤ 9223372036854775807:=by unfold maxLen at h63; omega
  subst hm
  have hnl:news.length = ys.length * i.size:=by rw [hy.length,hsz']
  obtain ⟨p0,hp0,hl0,hb0⟩:=s.get k hk
  have fresh:∀ (cs:List Value) (cap:Nat),RF nilH xs cs→xs.length + ys.length ≤ cap→cap ≤ maxLen →
      Sat w0 (G.set k (rowM e (.slice (some ⟨w.heap.size,0,none⟩) (xs ++ ys).length cap) (xs ++ ys))) (w.drew.alloc (.cells (cs.toArray ++ news.toArray ++ Builtin.zeroCells z.cells (cap - (xs.length + ys.length))) e)):=by
    intro cs cap hx hcap hcm
    refine s.turn k hk _ rfl rfl rfl (by simp) fun p hp hl hb=>?_
    refine ⟨fun b hb' hn=>(Below.heap_alloc w.drew _ b (by simpa using hb')),fun b=>if b = w.heap.size then some (.cells (cs.toArray ++ news.toArray ++ Builtin.zeroCells z.cells (cap - (xs.length + ys.length))) e (0,0)) else none,.inr ?_,fun b o hbo=>?_⟩
    · refine ⟨w.heap.size,cap,cs ++ news,(Builtin.zeroCells z.cells (cap - (xs.length + ys.length))).toList,(0,0),rfl,by simp,by simpa using hcap,hcm,?_,RF.append hx hy,fun o _ h=>by omega⟩
      simp only [List.length_append,hx.length,hy.length,Array.length_toList,size_zeroCells,hzs,← Nat.add_mul]
      congr 1
      omega
    · dsimp only at hbo
      split at hbo
      · rename_i hbw
        subst hbw; cases hbo
        exact ⟨.inr (Nat.le_refl _),heap_alloc_new w.drew _⟩
      · cases hbo
  rcases hp0 with ⟨rfl,rfl⟩ | ⟨g,cap,cs,sp,mk,rfl,hgp,hlc,hcm,hlen,hx,hmk⟩
  · by_cases hm:ys.length = 0
    · have hys:ys = []:=List.eq_nil_of_length_eq_zero hm
      subst hys
      have hn:news = []:=hy
      subst hn
      refine ⟨.slice none 0 0,w,?_,?_⟩
      · simp [Builtin.append_,run_underlying hu,sizeOf,typeInfo,hi,Builtin.lenOf,Builtin.firstCells,loadCells,loadCellsFrom]
      · exact s.weaken k hk _ fun p hp=>.inl ⟨rfl,rfl⟩
    · have hr:=run_append_nil (P:=P) w t ty e i z hu hi hz' q ys.length c news hnl hnews (by omega) (by simpa using h63') (by have hb:=hbytes; simp only [List.length_nil,Nat.zero_add] at hb; omega)
      have hge:=grownCap_ge w ys.length 0 e
      have hle:=grownCap_le_maxLen w ys.length 0 e (by simpa using h63)
      have:=fresh [] (grownCap w ys.length 0 e) rfl (by simpa using hge) hle
      simp only [List.nil_append,List.length_nil,Nat.zero_add,Array.empty_append] at this
      exact ⟨_,_,hr,by simpa using this⟩
  · have hwg:=hl0 _ _ hgp
    have hcsl:=hx.length
    by_cases hroom:xs.length + ys.length ≤ cap
    · have hfit:xs.length * i.size + news.length ≤ (cs ++ sp).length:=by
        simp only [hlen,hnl,hsz',← Nat.add_mul]
        exact Nat.mul_le_mul_right _ hroom
      have hwg':w.heap[g]? = some (.cells (cs ++ sp).toArray e mk):=hwg
      have hr:=run_append_room_cells (P:=P) w t ty e i hu hi g 0 xs.length cap q ys.length c news hnl hnews hy.one hroom
        (fun j hj=>by
          have hj2:xs.length * i.size + j < (cs ++ sp).length:=by omega
          rw [Nat.zero_add]; simp only [World.cell?,hwg']; simp only [List.size_toArray,Array.getElem?_eq_getElem (xs:=(cs ++ sp).toArray) (i:=xs.length * i.size + j) (by simpa using hj2)]; rfl)
        (fun j hj=>by
          have h1:=hmk (xs.length * i.size + j) (by rw [← hlen]; omega)
          simp only [World.frozen?,hwg',Nat.zero_add,Bool.and_eq_false_iff,decide_eq_false_iff_not]
          omega)
      refine ⟨_,_,hr,?_⟩
      simp only [Nat.zero_add]
      have hB:=setCells_blk g e mk news (xs.length * i.size) (cs ++ sp) w hwg' hfit
      have harr:(cs ++ sp).take (xs.length * i.size) ++ news ++ (cs ++ sp).drop (xs.length * i.size + news.length) = (cs ++ news) ++ sp.drop news.length:=by
        rw [hsz',← hcsl]
        simp [List.drop_append]
      rw [harr] at hB
      obtain ⟨z1,z2,z3,z4⟩:=setCells_same g news (xs.length * i.size) w
      refine s.turn k hk _ z2 z3 z4 (by rw [z1]; exact Nat.le_refl _) fun p hp hl hb=>?_
      have hpg:p g ≠ none:=by
        rcases hp with ⟨hv,_⟩ | ⟨g',cap',cs',sp',m',hv,hgp',_⟩
        · cases hv
        · simp only [Value.slice.injEq,Option.some.injEq,Addr.mk.injEq,and_true,true_and] at hv
          obtain ⟨rfl,rfl⟩:=hv
          rw [hgp']; simp
      refine ⟨fun b hb' hn=>setCells_other g b (fun e'=>by subst e'; exact hpg hn) _ _ _,fun b=>if b = g then some (.cells ((cs ++ news) ++ sp.drop news.length).toArray e mk) else none,.inr ?_,fun b o hbo=>?_⟩
      · refine ⟨g,cap,cs ++ news,sp.drop news.length,mk,by simp,by simp,by simpa using hroom,hcm,?_,RF.append hx hy,hmk⟩
        have h1:=hlen
        simp only [List.length_append,List.length_drop] at h1 ⊢
        have h2:cs.length + news.length ≤ cap * Enc.sz α:=by rw [hcsl,hnl,hsz',← Nat.add_mul]; exact Nat.mul_le_mul_right _ hroom
        omega
      · dsimp only at hbo
        split at hbo
        · rename_i hbg; subst hbg; cases hbo
          exact ⟨.inl hpg,hB⟩
        · cases hbo
    · have holds:∀ j u,cs[j]? = some u→w.cell? ((⟨g,0,none⟩:Addr).add j) = some u:=fun j u hj=>by
        have hw:w.heap[g]? = some (.cells (cs ++ sp).toArray e mk):=hwg
        rw [add_lit]
        simp [World.cell?,hw,List.getElem?_append_left (List.getElem?_eq_some_iff.1 hj).1,hj]
      have hr:=run_append_grow (P:=P) w t ty e i z hu hi hz' ⟨g,0,none⟩ xs.length cap cs (by rw [hcsl,hsz']) holds q ys.length c news hnl hnews (by omega) h63' (growslice_fits (by omega) hbytes)
      have hge:=grownCap_ge w (xs.length + ys.length) cap e
      have hle:=grownCap_le_maxLen w (xs.length + ys.length) cap e h63
      have:=fresh cs (grownCap w (xs.length + ys.length) cap e) hx hge hle
      exact ⟨_,_,hr,by simpa using this⟩
section
variable {P:Program} {n:Nat} {fr:Fr} {dst:Option Tmp} {ty:TypeId} {pos:String} {aft:Array Edge} {g:Option (Nat × Bool)} {S:As}
theorem Sd.appRM [Flat α] (k:Nat) {x y:Operand} {t e:TypeId} {by':Nat} {z v vy:Value} {xs ys:List α} (hk:G[k]? = some (rowM e v xs))
    (ht:slTy P t = some (e,Enc.sz α,by')) (hz:zeroOf P e = some z) (hzs:z.cells.size = Enc.sz α) (hx:ev fr x = some v) (hy:ev fr y = some vy) (hR:Rd (Sat w0 G) ys [vy])
    (hlt:xs.length + ys.length < 1099511627776) (hby:by' ≤ 128) :
    Sd P n ⟨dst,.call { callee:=.builtin .append,args:=#[x,y],argTypes:=#[t,t] },ty,pos,aft,g⟩ fr (Sat w0 G) (fun q=>rowV q (xs ++ ys).length) (fun q=>Sat w0 (G.set k (rowM e (rowV q (xs ++ ys).length) (xs ++ ys)))):=fun a w kn s=>by
  have hbytes:(xs.length + ys.length) * by' ≤ 140737488355328:=by
    have:=Nat.mul_le_mul (show xs.length + ys.length ≤ 1099511627776 by omega) hby; omega
  have h63:xs.length + ys.length ≤ maxLen:=by unfold maxLen; omega
  obtain ⟨p',cap',e',s1,s2,s3⟩:=hR w s
  simp only [List.cons.injEq,and_true] at e'
  subst e'
  have fin:∀ v' w',(Builtin.append_ #[t,t] ty #[v,.slice p' ys.length cap']).run P w = .ok v' w'→Sat w0 (G.set k (rowM e v' (xs ++ ys))) w' →
      solidRes P (fun q=>rowV q (xs ++ ys).length) (fun q=>Sat w0 (G.set k (rowM e (rowV q (xs ++ ys).length) (xs ++ ys)))) ((execOp a.eval ⟨dst,.call { callee:=.builtin .append,args:=#[x,y],argTypes:=#[t,t] },ty,pos,aft,g⟩).run P w):=fun v' w' hr hs=>by
    rw [run_builtin_append kn hx hy hr]
    have hkl:k < (G.set k (rowM e v' (xs ++ ys))).length:=by simpa using (List.getElem?_eq_some_iff.1 hk).1
    obtain ⟨p,hp,_⟩:=hs.get k (List.getElem?_set_self (by simpa using hkl))
    obtain ⟨q',hq⟩:=rowM_shape hp
    exact ⟨q',hq,by show Sat w0 (G.set k (rowM e (rowV q' (xs ++ ys).length) (xs ++ ys))) w'; rw [show rowV q' (xs ++ ys).length = v' from hq.symm]; exact hs⟩
  cases p' with
  | none =>
    have hnil:ys = []:=by
      rcases s3 with h | ⟨b,o,cs,hq,_⟩
      · exact h
      · cases hq
    subst hnil
    obtain ⟨p,hp,_⟩:=s.get k hk
    obtain ⟨q',hq⟩:=rowM_shape hp
    obtain ⟨hu,i,hi,_,_⟩:=slTy_spec ht
    have hlc:xs.length ≤ q'.2:=by
      have h2:=s.row_fitsM (k:=k) (e:=e) (xs:=xs) (q:=q') (m:=xs.length) (by rw [hk,hq]; rfl)
      exact h2.2.1
    refine fin v w ?_ (by
      have e1:G.set k (rowM e v (xs ++ [])) = G:=by
        rw [List.append_nil]
        obtain ⟨hl,he⟩:=List.getElem?_eq_some_iff.1 hk
        exact he ▸ List.set_getElem_self hl
      rw [e1]; exact s)
    subst hq
    obtain ⟨o,c⟩:=q'
    have hlc':xs.length ≤ c:=hlc
    cases o <;> simp [Builtin.append_,run_underlying hu,sizeOf,typeInfo,hi,Builtin.lenOf,Builtin.firstCells,storeCells,hlc']
  | some q =>
    rcases s3 with rfl | ⟨b,o,cs,hq,hr,ha⟩
    · obtain ⟨v',w',hr',hs⟩:=s.appendM (ty:=ty) hk ht hz hzs (ys:=[]) (news:=[]) (by simp [RF]) (q:=q) (c:=cap') rfl (by simp) hbytes h63
      exact fin v' w' hr' hs
    · cases hq
      obtain ⟨v',w',hr',hs⟩:=s.appendM (ty:=ty) hk ht hz hzs hr.any (q:=⟨b,o,none⟩) (c:=cap') rfl (fun j u hj=>by rw [add_lit]; exact ha.cell hj) hbytes h63
      exact fin v' w' hr' hs
theorem Sd.app1M [Flat α] (k k1:Nat) {x y:Operand} {t e e':TypeId} {by':Nat} {z v:Value} {xs:List α} (y0:α) {news:List Value} {b c:Nat}
    (hk:G[k]? = some (rowM e v xs)) (hk1:G[k1]? = some (blk b news e'))
    (ht:slTy P t = some (e,Enc.sz α,by')) (hz:zeroOf P e = some z) (hzs:z.cells.size = Enc.sz α) (hx:ev fr x = some v) (hy:ev fr y = some (.slice (some ⟨b,0,none⟩) 1 c))
    (hr:R nilH y0 news) (hlt:xs.length < 1099511627776) (hby:by' ≤ 128) :
    Sd P n ⟨dst,.call { callee:=.builtin .append,args:=#[x,y],argTypes:=#[t,t] },ty,pos,aft,g⟩ fr (Sat w0 G) (fun q=>rowV q (xs ++ [y0]).length) (fun q=>Sat w0 (G.set k (rowM e (rowV q (xs ++ [y0]).length) (xs ++ [y0])))):=fun a w kn s=>by
  have hbytes:(xs.length + 1) * by' ≤ 140737488355328:=by
    have:=Nat.mul_le_mul (show xs.length + 1 ≤ 1099511627776 by omega) hby; omega
  obtain ⟨v',w',hr',hs⟩:=s.appendM (ty:=ty) hk ht hz hzs (RF.single hr) (q:=⟨b,0,none⟩) (m:=1) (c:=c) rfl (fun j u hj=>by
    have hb:=(s.getBlk hk1).1
    rw [add_lit]
    simp [World.cell?,hb,hj]) hbytes (by unfold maxLen; omega)
  rw [run_builtin_append kn hx hy hr']
  have hkl:k < (G.set k (rowM e v' (xs ++ [y0]))).length:=by simpa using (List.getElem?_eq_some_iff.1 hk).1
  obtain ⟨p,hp,_⟩:=hs.get k (List.getElem?_set_self (by simpa using hkl))
  obtain ⟨q',hq⟩:=rowM_shape hp
  exact ⟨q',hq,by show Sat w0 (G.set k (rowM e (rowV q' (xs ++ [y0]).length) (xs ++ [y0]))) w'; rw [show rowV q' (xs ++ [y0]).length = v' from hq.symm]; exact hs⟩
theorem Sd.convM {α:Type} [Enc α] (k:Nat) {x:Operand} {t e e':TypeId} {b len:Nat} {cs:List Value} (xs:List α) (hk:G[k]? = some (blk b cs e')) (ht:P.underlying t = some (.slice e)) (he:P.underlying e = some (.int .u8))
    (hx:ev fr x = some (.slice (some ⟨b,0,none⟩) len len)) (hl:xs.length = len) (hm:len ≤ maxLen) (hr:RF nilH xs cs) :
    Sd P n ⟨dst,.convert t t x,ty,pos,aft,g⟩ fr (Sat w0 G) (fun _:Unit=>rowV (some b,len) len) (fun _=>Sat w0 (G.set k (rowM e' (rowV (some b,len) len) xs))):=fun a w kn s=>by
  have hb:=(s.getBlk hk).1
  have hbs:b < w.heap.size:=(Array.getElem?_eq_some_iff.1 hb).1
  have hsh:w.shape? b = some (e',cs.length):=by simp [World.shape?,hb]
  have hrun:(execOp a.eval ⟨dst,.convert t t x,ty,pos,aft,g⟩).run P w = .ok (.value (rowV (some b,len) len)) (w.freeze ⟨b,cs.length,none⟩ 1):=by
    simp [execOp,kn.ev hx,convert,run_underlying ht,run_underlying he,markStringish,hsh,rowV]
  rw [hrun]
  refine ⟨(),rfl,?_⟩
  have hfz:∀ c,(w.freeze ⟨b,cs.length,none⟩ 1).heap[c]? = if b = c then some (.cells cs.toArray e' (cs.length,cs.length + 1)) else w.heap[c]?:=fun c=>by
    simp only [World.freeze,Nat.one_ne_zero,if_false,Array.getElem?_modify]
    split
    · rename_i h; subst h; rw [hb]; simp
    · rfl
  refine s.turn k hk _ (by simp [World.freeze]) (by simp [World.freeze]) (by simp [World.freeze]) (by simp [World.freeze]) fun p hp hl' hb'=>?_
  refine ⟨fun c hc hn=>?_,fun c=>if c = b then some (.cells cs.toArray e' (cs.length,cs.length + 1)) else none,.inr ?_,fun c o hco=>?_⟩
  · have hne:b ≠ c:=fun e=>by subst e; rw [show p b = some (.cells cs.toArray e' (0,0)) from hp] at hn; cases hn
    rw [hfz,if_neg hne]
  · have hlen:=hr.length
    refine ⟨b,len,cs,[],(cs.length,cs.length + 1),by rw [hl]; rfl,by simp,by omega,hm,by simp [hlen,hl],hr,fun o ho h=>?_⟩
    rw [hlen,hl] at h
    omega
  · dsimp only at hco
    split at hco
    · rename_i hcb; subst hcb; cases hco
      refine ⟨.inl (by rw [show p c = some (.cells cs.toArray e' (0,0)) from hp]; simp),?_⟩
      rw [hfz,if_pos rfl]
    · cases hco
theorem Sd.callMV (k:Nat) {C:Ch} {f:FuncId} {cs:List Value} {xo:Operand} {xs:List Operand} {ts:Array TypeId} {vs:List Value} (he:Ent P f) (hv:ev fr xo = some (.func (.func f) #[] cs.toArray)) (hx:evs fr xs = some vs) (hk:G[k]? = some C)
    {ι:Type} {val:ι→Value} {C':ι→Ch} (hc:∀ w,Sat w0 [C,restOf G k] w→Calls P f (vs ++ cs).toArray w (fun e w'=>∃ i,e = .returned (val i)∧Sat w0 [C' i,restOf G k] w')) :
    Sd P n ⟨dst,.call { callee:=.value xo,args:=xs.toArray,argTypes:=ts },ty,pos,aft,g⟩ fr (Sat w0 G) val (fun i=>Sat w0 (G.set k (C' i))) :=
  Sd.callV he hv hx fun w s=>(hc w (s.focus hk)).mono fun e w' ⟨i,h1,h2⟩=>⟨i,h1,by
    have:=Sat.unfocus (D:=[]) (List.getElem?_eq_some_iff.1 hk).1 (by simpa using h2)
    simpa using this⟩
theorem Pu.mkIface {x:Operand} {t e:TypeId} {v:Value} (ht:P.underlying t = some (.pointer e)) (hx:ev fr x = some v):Pu P n ⟨dst,.makeInterface t x,ty,pos,aft,g⟩ fr (.iface t v):=fun a kn w=>by
  simp [execOp,kn.ev hx,Instr.makeInterface,run_underlying ht]
end
end
def eqFs (P:Program):List Field→Option (List (Nat × Option (Nat × List Nat)))
  | []=>some []
  | f :: fs=>if f.name == "_" then none else
    match tySz P f.type,P.underlying f.type,eqFs P fs with
    | some (1,false),some (.int _),some r=>some ((f.offset,none) :: r)
    | some (n,true),_,some r=>(eqTy P f.type).map fun offs=>(f.offset,some (n,offs)) :: r
    | _,_,_=>none
def eqTy2 (P:Program) (t:TypeId):Option (List (Nat × Option (Nat × List Nat))):=match P.underlying t with
  | some (.struct fs)=>if !P.stoodInHeld t && !P.eqGuardType P.depth t then eqFs P fs.toList else none
  | _=>none
def eqAt2 (xs ys:List Value):List (Nat × Option (Nat × List Nat))→Option Bool
  | []=>some true
  | (o,none) :: r=>match xs[o]?,ys[o]? with
    | some (.int k a),some (.int k' b)=>if k = k' then (eqAt2 xs ys r).map fun q=>a == b && q else none
    | _,_=>none
  | (o,some (n,offs)) :: r=>match eqAt ((xs.drop o).take n) ((ys.drop o).take n) offs,eqAt2 xs ys r with
    | some a,some q=>some (a && q)
    | _,_=>none
theorem run_eqFields2 {P:Program} {d:Nat} {xs ys:List Value}:∀ (fs:List Field) {l:List (Nat × Option (Nat × List Nat))} {r:Bool},eqFs P fs = some l→eqAt2 xs ys l = some r→∀ w,(Op.eqFields (d + 2) xs.toArray ys.toArray fs).run P w = .ok r w
  | [],l,r,hf,hr,w=>by simp [eqFs] at hf; subst hf; cases hr; simp [Op.eqFields]
  | f :: fs,l,r,hf,hr,w=>by
    unfold eqFs at hf
    by_cases hn:(f.name == "_") = true
    · simp [hn] at hf
    rw [if_neg hn] at hf
    have h1:f.name ≠ "_":=by simpa using hn
    split at hf
    · rename_i k r' h3 hu hs
      cases hf
      simp only [eqAt2] at hr
      cases hx:xs[f.offset]? with
      | none=>simp [hx] at hr
      | some x =>
        cases hy:ys[f.offset]? with
        | none=>cases x <;> simp [hx,hy] at hr
        | some y =>
          rw [hx,hy] at hr
          cases x <;> cases y <;> simp only [reduceCtorEq] at hr
          rename_i k1 a k2 b
          by_cases hk:k1 = k2
          · subst hk
            simp only [if_true] at hr
            cases he:eqAt2 xs ys r' with
            | none=>simp [he] at hr
            | some q =>
              simp only [he,Option.map_some,Option.some.injEq] at hr
              subst hr
              have hpx:(part f.type xs.toArray f.offset).run P w = .ok (.int k1 a) w:=by simp [part,run_isAgg_of h3,hx]
              have hpy:(part f.type ys.toArray f.offset).run P w = .ok (.int k1 b) w:=by simp [part,run_isAgg_of h3,hy]
              have ih:=run_eqFields2 (d:=d) fs hs he w
              simp only [Op.eqFields,if_pos h1,Sem.run_bind,hpx,hpy,Result.andThen_ok,run_equalIn_int w (d + 1) f.type k1 k a b hu,Sem.run_ite,Sem.run_pure,ih]
              by_cases hab:a = b
              · simp [hab]
              · simp [hab]
          · simp [hk] at hr
    · rename_i n r' h3 hs
      obtain ⟨offs,ho,rfl⟩:=Option.map_eq_some_iff.1 hf
      simp only [eqAt2] at hr
      cases ha:eqAt ((xs.drop f.offset).take n) ((ys.drop f.offset).take n) offs with
      | none=>simp [ha] at hr
      | some a =>
        cases he:eqAt2 xs ys r' with
        | none=>simp [ha,he] at hr
        | some q =>
          simp only [ha,he,Option.some.injEq] at hr
          subst hr
          have hpx:(part f.type xs.toArray f.offset).run P w = .ok (.agg ((xs.drop f.offset).take n).toArray) w:=by
            simp [part,run_isAgg_of h3,run_sizeOf_of h3,List.extract_eq_take_drop]
          have hpy:(part f.type ys.toArray f.offset).run P w = .ok (.agg ((ys.drop f.offset).take n).toArray) w:=by
            simp [part,run_isAgg_of h3,run_sizeOf_of h3,List.extract_eq_take_drop]
          obtain ⟨gs,g1,g2,g3,g4,g5⟩:=eqTy_spec ho
          have hgf:P.fieldsOf f.type = gs:=by simp [Program.fieldsOf,g1]
          have e2:=run_equalIn_agg (P:=P) (w:=w) (d + 1) f.type ((xs.drop f.offset).take n).toArray ((ys.drop f.offset).take n).toArray (by rw [hgf]; exact g1) g4
          rw [hgf,run_eqFields (d:=d) gs.toList g3 (by rw [g2]; exact ha) w] at e2
          have ih:=run_eqFields2 (d:=d) fs hs he w
          simp only [Op.eqFields,if_pos h1,Sem.run_bind,hpx,hpy,Result.andThen_ok,e2,Sem.run_ite,Sem.run_pure,ih]
          cases a <;> simp
    · cases hf
section
variable {P:Program} {n:Nat} {fr:Fr} {dst:Option Tmp} {ty:TypeId} {pos:String} {aft:Array Edge} {g:Option (Nat × Bool)}
theorem eqTy2_run {xt:TypeId} {xs ys:List Value} {l:List (Nat × Option (Nat × List Nat))} {r:Bool} (ht:eqTy2 P xt = some l) (hr:eqAt2 xs ys l = some r) (w:World) :
    P.eqGuardType P.depth xt = false∧(Op.equalIn 10000 xt (.agg xs.toArray) (.agg ys.toArray)).run P w = .ok r w:=by
  unfold eqTy2 at ht
  split at ht
  · rename_i fs e
    split at ht
    · rename_i hc
      simp only [Bool.and_eq_true,Bool.not_eq_true'] at hc
      have hf:P.fieldsOf xt = fs:=by simp [Program.fieldsOf,e]
      have e2:=run_equalIn_agg (P:=P) (w:=w) 9999 xt xs.toArray ys.toArray (by rw [hf]; exact e) hc.1
      rw [hf,run_eqFields2 (d:=9997) fs.toList ht hr w] at e2
      exact ⟨hc.2,e2⟩
    · cases ht
  · cases ht
theorem Pu.neSt2 {xt yt:TypeId} {x y:Operand} {xs ys:List Value} {l:List (Nat × Option (Nat × List Nat))} {r:Bool} {p:Prop} [Decidable p] (ht:eqTy2 P xt = some l) (hx:ev fr x = some (.agg xs.toArray)) (hy:ev fr y = some (.agg ys.toArray)) (hr:eqAt2 xs ys l = some r) (he:r = decide p) :
    Pu P n ⟨dst,.binOp .neq xt x y yt,ty,pos,aft,g⟩ fr (.bool (decide (¬ p))):=fun ac kn w=>by
  subst he
  obtain ⟨h5,e2⟩:=eqTy2_run ht hr w
  simp only [execOp,kn.ev hx,kn.ev hy,Sem.run_bind,Sem.run_pure,run_eqGuard_agg w .neq xt x y xs.toArray ys.toArray h5,Result.andThen_ok,run_neq_struct,e2]
  simp
end
theorem Cont.inB {n id:Nat} {Q:Po} {fr:Fr} {S:As} (h:Cont n (Q .normal) fr S):Cont n (Exit.inBlock id Q .normal) fr S:=fun a w k s=>h a w k s
end Go.Vg
