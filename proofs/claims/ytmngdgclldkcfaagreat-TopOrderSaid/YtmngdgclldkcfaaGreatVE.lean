/-
  Calls, entries and returns; rows that grow, that are written, that are made. For every program whose tables say what the lemma asks. A library of this claim's own.
-/
import Derived.Test.YtmngdgclldkcfaaGreatVD
import Derived.Laws.MakeOwn
set_option linter.unusedSimpArgs false
set_option linter.unusedVariables false
namespace Go.Vg
open Go.RowKit (Below)
open Enc (R)

def evs (fr:Fr):List Operand→Option (List Value)
  | []=>some []
  | x :: r=>match ev fr x,evs fr r with
    | some v,some l=>some (v :: l)
    | _,_=>none
theorem Knows.evs {n:Nat} {fr:Fr} {a:Act} (k:Knows n fr a):∀ {xs:List Operand} {vs:List Value},Vg.evs fr xs = some vs→xs.map a.eval = vs
 | [],vs,h=>by simp [Vg.evs] at h; simp [h]
 | x :: r,vs,h=>by
  unfold Vg.evs at h
  split at h
  ·rename_i v l hv hl
   cases h
   simp [k.ev hv,k.evs hl]
  ·cases h

def Ent (P:Program) (f:FuncId):Prop:=∃ fn c,P.funcs[f]? = some fn∧(fn.name == "runtime.NumGoroutine") = false∧fn.body = some c

section
variable {P:Program} {n:Nat} {fr:Fr} {dst:Option Tmp} {ty:TypeId} {pos:String} {aft:Array Edge} {g:Option (Nat × Bool)} {S:As} {w0:World} {G:List Ch}
theorem run_enter {f:FuncId} {xs:List Operand} {ts:Array TypeId} {vs:List Value} (he:Ent P f) (hx:evs fr xs = some vs) {a:Act} (k:Knows n fr a) (w:World) :
  (execOp a.eval ⟨dst,.call { callee:=.value (.func f),args:=xs.toArray,argTypes:=ts },ty,pos,aft,g⟩).run P w = .ok (.enter f vs.toArray) w:=by
 obtain ⟨fn,c,h1,h2,h3⟩:=he
 have h2':¬ fn.name = "runtime.NumGoroutine":=by simpa using h2
 have:=k.evs hx
 simp [execOp,resolve,Act.eval,Deferred.ofValue,invoke,callFunc,h1,h2',h3,this]
theorem Sd.call {f:FuncId} {xs:List Operand} {ts:Array TypeId} {vs:List Value} (he:Ent P f) (hx:evs fr xs = some vs) {ι:Type} {val:ι→Value} {S':ι→As}
  (hc:∀ w,S w→Calls P f vs.toArray w (fun e w'=>∃ i,e = .returned (val i)∧S' i w')) :
  Sd P n ⟨dst,.call { callee:=.value (.func f),args:=xs.toArray,argTypes:=ts },ty,pos,aft,g⟩ fr S val S':=fun a w k s=>by
 rw [run_enter he hx k]
 exact hc w s
theorem Qt.call {f:FuncId} {xs:List Operand} {ts:Array TypeId} {vs:List Value} (he:Ent P f) (hx:evs fr xs = some vs) {v:Value}
  (hc:∀ w,S w→Calls P f vs.toArray w (fun e w'=>e = .returned v∧Ext w w')) :
  Qt P n ⟨dst,.call { callee:=.value (.func f),args:=xs.toArray,argTypes:=ts },ty,pos,aft,g⟩ fr S v:=fun a w k s=>by
 rw [run_enter he hx k]
 exact ⟨Ext.refl w,hc w s⟩
theorem Sd.callN {f:FuncId} {xs:List Operand} {ts:Array TypeId} {vs:List Value} (he:Ent P f) (hx:evs fr xs = some vs) {ι:Type} {val:ι→Value} {D:ι→List Ch}
  (hc:∀ w,Sat w0 G w→Calls P f vs.toArray w (fun e w'=>∃ i,e = .returned (val i)∧Sat w (D i) w')) :
  Sd P n ⟨dst,.call { callee:=.value (.func f),args:=xs.toArray,argTypes:=ts },ty,pos,aft,g⟩ fr (Sat w0 G) val (fun i=>Sat w0 (G ++ D i)) :=
 Sd.call he hx fun w s=>(hc w s).mono fun e w' ⟨i,h1,h2⟩=>⟨i,h1,s.join h2⟩
def restOf (G:List Ch) (k:Nat):Ch:=fun h=>∃ own:Nat→Nat,∀ i D,i ≠ k→G[i]? = some D→∃ p:Hp,D p∧∀ b o,p b = some o→own b = i∧h b = some o
theorem Sat.focus {w:World} (s:Sat w0 G w) {k:Nat} {C:Ch} (hk:G[k]? = some C):Sat w0 [C,restOf G k] w:=by
 obtain ⟨e,own,h2⟩:=s
 refine ⟨e,fun b=>if own b = k then 0 else 1,fun i D hi=>?_⟩
 match i,hi with
 | 0,hi =>
  simp at hi; subst hi
  obtain ⟨p,hp,hb⟩:=h2 k _ hk
  exact ⟨p,hp,fun b o hbo=>by obtain ⟨a1,a2,a3⟩:=hb b o hbo; exact ⟨a1,by simp [a2],a3⟩⟩
 | 1,hi =>
  simp at hi; subst hi
  refine ⟨fun b=>if own b = k ∨ b < w0.heap.size then none else w.heap[b]?,⟨own,fun i D hik hi=>?_⟩,fun b o hbo=>?_⟩
  ·obtain ⟨p,hp,hb⟩:=h2 i D hi
   exact ⟨p,hp,fun b o hbo=>by
    obtain ⟨a1,a2,a3⟩:=hb b o hbo
    refine ⟨a2,?_⟩
    show (if own b = k ∨ b < w0.heap.size then none else w.heap[b]?) = some o
    rw [if_neg (by rintro (h | h) <;> omega)]; exact a3⟩
  ·dsimp only at hbo
   split at hbo
   ·cases hbo
   ·rename_i hn
    have h1:¬ own b = k:=fun h=>hn (.inl h)
    exact ⟨Nat.le_of_not_lt fun h=>hn (.inr h),by simp [h1],hbo⟩
 | i + 2,hi=>simp at hi
theorem Sat.unfocus {w:World} {k:Nat} {C':Ch} {D:List Ch} (hk:k < G.length) (s:Sat w0 ([C',restOf G k] ++ D) w):Sat w0 (G.set k C' ++ D) w:=by
 obtain ⟨e,own,h2⟩:=s
 obtain ⟨r,⟨own',hr⟩,hbr⟩:=h2 1 _ rfl
 refine ⟨e,fun b=>if own b = 0 then k else if own b = 1 then (if own' b = k then G.length + D.length else if own' b < G.length then own' b else G.length + D.length) else own b - 2 + G.length,fun j E hj=>?_⟩
 rw [List.getElem?_append] at hj
 split at hj
 ·rename_i hjl
  simp only [List.length_set] at hjl
  by_cases hjk:k = j
  ·subst hjk
   rw [List.getElem?_set_self hk] at hj
   have:=(Option.some.inj hj).symm; subst this
   obtain ⟨p,hp,hb⟩:=h2 0 _ rfl
   exact ⟨p,hp,fun b o hbo=>by obtain ⟨a1,a2,a3⟩:=hb b o hbo; exact ⟨a1,by simp [a2],a3⟩⟩
  ·rw [List.getElem?_set_ne hjk] at hj
   obtain ⟨p,hp,hb⟩:=hr j E (fun e=>hjk e.symm) hj
   refine ⟨p,hp,fun b o hbo=>?_⟩
   obtain ⟨a1,a2⟩:=hb b o hbo
   obtain ⟨c1,c2,c3⟩:=hbr b o a2
   refine ⟨c1,?_,c3⟩
   show (if own b = 0 then k else if own b = 1 then (if own' b = k then G.length + D.length else if own' b < G.length then own' b else G.length + D.length) else own b - 2 + G.length) = j
   rw [c2,if_neg (by omega),if_pos rfl,a1,if_neg (fun e=>hjk e.symm),if_pos hjl]
 ·rename_i hjl
  simp only [List.length_set] at hjl hj
  obtain ⟨p,hp,hb⟩:=h2 (j - G.length + 2) E (by
   show (C' :: restOf G k :: D)[j - G.length + 2]? = some E
   simpa using hj)
  refine ⟨p,hp,fun b o hbo=>?_⟩
  obtain ⟨c1,c2,c3⟩:=hb b o hbo
  refine ⟨c1,?_,c3⟩
  show (if own b = 0 then k else if own b = 1 then (if own' b = k then G.length + D.length else if own' b < G.length then own' b else G.length + D.length) else own b - 2 + G.length) = j
  rw [c2,if_neg (by omega),if_neg (by omega)]; omega
def star (A B:Ch):Ch:=fun h=>∃ p q:Hp,A p∧B q∧(∀ b,p b = none ∨ q b = none)∧p.le h∧q.le h
def exch {ι:Type} (C:ι→Ch):Ch:=fun h=>∃ i,C i h
theorem Sat.unstar {w:World} {A B:Ch} (s:Sat w0 (star A B :: G) w):Sat w0 (A :: B :: G) w:=by
 obtain ⟨e,own,h2⟩:=s
 obtain ⟨r,⟨p,q,hp,hq,hd,h3,h4⟩,hbr⟩:=h2 0 _ rfl
 classical
 refine ⟨e,fun b=>if own b = 0 then (if p b = none then 1 else 0) else own b + 1,fun j E hj=>?_⟩
 match j,hj with
 | 0,hj =>
  simp at hj; subst hj
  exact ⟨p,hp,fun b o hbo=>by obtain ⟨a1,a2,a3⟩:=hbr b o (h3 b o hbo); exact ⟨a1,by simp [a2,hbo],a3⟩⟩
 | 1,hj =>
  simp at hj; subst hj
  exact ⟨q,hq,fun b o hbo=>by
   obtain ⟨a1,a2,a3⟩:=hbr b o (h4 b o hbo)
   have hpn:p b = none:=(hd b).resolve_right (by rw [hbo]; simp)
   exact ⟨a1,by simp [a2,hpn],a3⟩⟩
 | j + 2,hj =>
  obtain ⟨u,hu,hb⟩:=h2 (j + 1) E (by simpa using hj)
  exact ⟨u,hu,fun b o hbo=>by obtain ⟨a1,a2,a3⟩:=hb b o hbo; exact ⟨a1,by simp [a2],a3⟩⟩
theorem Sat.toStar {w:World} {A B:Ch} (s:Sat w0 (A :: B :: G) w):Sat w0 (star A B :: G) w :=
 s.merge _ fun p q r hp hq h1 h2 h3=>⟨p,q,hp,hq,h3,h1,h2⟩
theorem Sat.toEx {w:World} {ι:Type} {C:ι→Ch} (i:ι) (s:Sat w0 (C i :: G) w):Sat w0 (exch C :: G) w:=by
 have:=s.weaken 0 rfl (exch C) fun p hp=>⟨i,hp⟩
 simpa using this

def frameOf:Nat→List Value→Fr
  | _,[]=>[]
  | i,v :: r=>(i,v) :: frameOf (i + 1) r
theorem look_frameOf:∀ (vs:List Value) (k i:Nat) (v:Value),look (frameOf k vs) i = some v→k ≤ i∧vs[i - k]? = some v
 | [],k,i,v,h=>by simp [frameOf,look] at h
 | u :: r,k,i,v,h=>by
  rw [frameOf,look_cons] at h
  split at h
  ·rename_i e; subst e; cases h; simp
  ·rename_i e
   obtain ⟨h1,h2⟩:=look_frameOf r (k + 1) i v h
   exact ⟨by omega,by rw [show i - k = (i - (k + 1)) + 1 by omega]; simpa using h2⟩
theorem T.enter {f:FuncId} {fn:Func} {c:Code} {args:List Value} {w:World} {R:Ending→World→Prop} {S:As} (hf:P.funcs[f]? = some fn) (hb:fn.body = some c) (hn:Nat.ble args.length fn.ntmps = true) (s:S w)
  (h:T P fn.ntmps c (frameOf 0 args) S (bodyPost P fn R)):Calls P f args.toArray w R:=by
 refine calls_of_wp hf hb (h _ w ⟨?_,rfl,fun i v hi=>?_⟩ s)
 ·have:args.length ≤ fn.ntmps:=by simpa using hn
  simp; omega
 ·obtain ⟨_,h2⟩:=look_frameOf args 0 i v hi
  simp only [Nat.sub_zero] at h2
  have hlt:=(List.getElem?_eq_some_iff.1 h2).1
  rw [Array.getElem?_append_left (by simpa using hlt)]
  simpa using h2
theorem Cont.ret0 {fn:Func} {R:Ending→World→Prop} (hr:fn.results = #[]) (h:∀ w,S w→R (.returned (.tuple #[])) w):Cont n (bodyPost P fn R .ret) fr S:=fun a w k s =>
 bodyPost_ret (results_none hr _ _ _) k.defers (h w s)
theorem Cont.end0 {fn:Func} {R:Ending→World→Prop} (hr:fn.results = #[]) (h:∀ w,S w→R (.returned (.tuple #[])) w):Cont n (bodyPost P fn R .normal) fr S:=fun a w k s =>
 bodyPost_end (results_none hr _ _ _) k.defers (h w s)
theorem Knows.getD {a:Act} (k:Knows n fr a) {t:Nat} {v:Value} (h:look fr t = some v):a.tmps.getD t undef = v:=by
 have:=k.get t v h; simp [Array.getD_eq_getD_getElem?,this]
theorem Cont.ret1 {fn:Func} {R:Ending→World→Prop} {t:Nat} {v:Value} (hr:fn.results = #[.tmp t]) (hv:look fr t = some v) (h:∀ w,S w→R (.returned v) w):Cont n (bodyPost P fn R .ret) fr S:=fun a w k s =>
 bodyPost_ret (by rw [results_tmp hr,k.getD hv]) k.defers (h w s)
theorem Cont.ret2 {fn:Func} {R:Ending→World→Prop} {t t':Nat} {v v':Value} (hr:fn.results = #[.tmp t,.tmp t']) (hv:look fr t = some v) (hv':look fr t' = some v') (h:∀ w,S w→R (.returned (.tuple #[v,v'])) w):Cont n (bodyPost P fn R .ret) fr S:=fun a w k s =>
 bodyPost_ret (by rw [results_tmp2 hr,k.getD hv,k.getD hv']) k.defers (h w s)
theorem Cont.ret3 {fn:Func} {R:Ending→World→Prop} {t t' t'':Nat} {v v' v'':Value} (hr:fn.results = #[.tmp t,.tmp t',.tmp t'']) (hv:look fr t = some v) (hv':look fr t' = some v') (hv'':look fr t'' = some v'') (h:∀ w,S w→R (.returned (.tuple #[v,v',v''])) w):Cont n (bodyPost P fn R .ret) fr S:=fun a w k s =>
 bodyPost_ret (by simp [results,hr,k.getD hv,k.getD hv',k.getD hv'',← Array.getD_eq_getD_getElem?]) k.defers (h w s)
theorem T.ex {c:Code} {Q:Po} {ι:Type} {S':ι→As} (hp:∀ w,S w→∃ i,S' i w) (h:∀ i,T P n c fr (S' i) Q):T P n c fr S Q:=fun a w k s=>let ⟨i,s'⟩:=hp w s; h i a w k s'
theorem RS.ex {ops:Array Oper} {Q:Po} {l:List Oper} {ι:Type} {S':ι→As} (hp:∀ w,S w→∃ i,S' i w) (h:∀ i,RS P n ops Q l fr (S' i)):RS P n ops Q l fr S:=fun a w k s=>let ⟨i,s'⟩:=hp w s; h i a w k s'
theorem RS.conseq {ops:Array Oper} {Q:Po} {l:List Oper} {fr':Fr} {S':As} (h:RS P n ops Q l fr' S') (hf:Sub fr fr') (hs:∀ w,S w→S' w):RS P n ops Q l fr S :=
 fun a w k s=>h a w (k.sub hf) (hs w s)

def rowAnd {α:Type} [Enc α] (B:Hp) (e:TypeId) (v:Value) (xs ys:List α) (news:List Value):Ch:=fun h =>
  (v = .slice none 0 0∧xs = []∧RF (h.over B) ys news) ∨
  ∃ g cap cs sp,v = .slice (some ⟨g,0,none⟩) xs.length cap∧h g = some (.cells (cs ++ sp).toArray e (0,0))∧xs.length ≤ cap∧cap ≤ maxLen∧(cs ++ sp).length = cap * Enc.sz α∧RF ((h.off g).over B) xs cs∧RF ((h.off g).over B) ys news
theorem Hp.over_mono' {p q B:Hp} (h:p.le q) (hB:∀ b o,B b = some o→q b = none):(p.over B).le (q.over B):=by
 intro b o e
 unfold Hp.over at e ⊢
 split at e
 ·rename_i o' e'; cases e; rw [h b _ e']
 ·rw [hB b o e]; exact e
theorem Sat.append {α:Type} [Enc α] {w:World} (s:Sat w0 G w) {k:Nat} {C:Ch} (hk:G[k]? = some C) {B:Hp} {t e ty:TypeId} {by':Nat} {z:Value} {v:Value} {xs ys:List α} {news:List Value}
  (ht:slTy P t = some (e,Enc.sz α,by')) (hz:zeroOf P e = some z) (hzs:z.cells.size = Enc.sz α)
  (hB:∀ b o,B b = some o→b < w0.heap.size) (hC:∀ p,C p→rowAnd B e v xs ys news p) {q:Addr} {m c:Nat} (hm:ys.length = m) (hnews:∀ j u,news[j]? = some u→w.cell? (q.add j) = some u)
  (hbytes:(xs.length + m) * by' ≤ 140737488355328) (h63:xs.length + m ≤ maxLen) :
  ∃ v' w',(Builtin.append_ #[t,t] ty #[v,.slice (some q) m c]).run P w = .ok v' w'∧Sat w0 (G.set k (row B e v' (xs ++ ys))) w':=by
 obtain ⟨hu,i,hi,hsz',hby⟩:=slTy_spec ht
 subst hby
 obtain ⟨i',hi',hz'⟩:=Option.bind_eq_some_iff.1 hz
 rw [hi] at hi'; cases hi'
 have h63':((xs.length + m:Nat):Int) ≤ 9223372036854775807:=by unfold maxLen at h63; omega
 subst hm
 have hw0:=s.ext.size
 have fresh:∀ (A:Hp→Hp) (cs:List Value) (cap:Nat),(∀ p,(A p).le p)→(∀ p,C p→p.le (hpOf w)→RF ((A p).over B) xs cs∧RF ((A p).over B) ys news)→xs.length + ys.length ≤ cap→cap ≤ maxLen →
   Sat w0 (G.set k (row B e (.slice (some ⟨w.heap.size,0,none⟩) (xs ++ ys).length cap) (xs ++ ys))) (w.drew.alloc (.cells (cs.toArray ++ news.toArray ++ Builtin.zeroCells z.cells (cap - (xs.length + ys.length))) e)):=by
  intro A cs cap hA hcs hcap hcm
  refine s.turn k hk _ rfl rfl rfl (by simp) fun p hp hl hb=>?_
  obtain ⟨hx,hy⟩:=hcs p hp hl
  refine ⟨fun b hb' hn=>(Below.heap_alloc w.drew _ b (by simpa using hb')),fun b=>if b = w.heap.size then some (.cells (cs.toArray ++ news.toArray ++ Builtin.zeroCells z.cells (cap - (xs.length + ys.length))) e (0,0)) else p b,.inr ?_,fun b o hbo=>?_⟩
  ·refine ⟨w.heap.size,cap,cs ++ news,(Builtin.zeroCells z.cells (cap - (xs.length + ys.length))).toList,rfl,?_,by simpa using hcap,hcm,?_,?_⟩
   ·simp
   ·simp only [List.length_append,hx.length,hy.length,Array.length_toList,size_zeroCells,hzs,← Nat.add_mul]
    congr 1
    omega
   ·have hmono:((A p).over B).le (Hp.over (Hp.off (fun b=>if b = w.heap.size then some (.cells (cs.toArray ++ news.toArray ++ Builtin.zeroCells z.cells (cap - (xs.length + ys.length))) e (0,0)) else p b) w.heap.size) B):=by
     refine Hp.over_mono' (fun b o hbo=>?_) (fun b o hbo=>?_)
     ·have hpb:=hA p b o hbo
      have hlt:=lt_of_hp (hl b o hpb)
      unfold Hp.off
      rw [if_neg (by omega)]
      show (if b = w.heap.size then _ else p b) = _
      rw [if_neg (by omega)]; exact hpb
     ·have hlt:=hB b o hbo
      unfold Hp.off
      rw [if_neg (by omega)]
      show (if b = w.heap.size then _ else p b) = _
      rw [if_neg (by omega)]
      cases hpb:p b with
      | none=>rfl
      | some o'=>have:=hb b o' hpb; omega
    exact RF.append (hx.mono hmono) (hy.mono hmono)
  ·dsimp only at hbo
   split at hbo
   ·rename_i hbw
    subst hbw; cases hbo
    exact ⟨.inr (Nat.le_refl _),heap_alloc_new w.drew _⟩
   ·exact ⟨.inl (by rw [hbo]; simp),by rw [Below.heap_alloc w.drew _ b (by simpa using lt_of_hp (hl b o hbo))]; exact hl b o hbo⟩
 obtain ⟨p0,hp0,hl0,hb0⟩:=s.get k hk
 rcases hC p0 hp0 with ⟨rfl,rfl,hy⟩ | ⟨g,cap,cs,sp,rfl,hgp,hlc,hcm,hlen,hx,hy⟩
 ·have hnl:news.length = ys.length * i.size:=by rw [hy.length,hsz']
  by_cases hm:ys.length = 0
  ·have hys:ys = []:=List.eq_nil_of_length_eq_zero hm
   subst hys
   have hn:news = []:=hy
   subst hn
   refine ⟨.slice none 0 0,w,?_,?_⟩
   ·simp [Builtin.append_,run_underlying hu,sizeOf,typeInfo,hi,Builtin.lenOf,Builtin.firstCells,loadCells,loadCellsFrom]
   ·exact s.weaken k hk _ fun p hp=>.inl ⟨rfl,rfl⟩
  ·have hr:=run_append_nil (P:=P) w t ty e i z hu hi hz' q ys.length c news hnl hnews (by omega) (by simpa using h63') (by have hb:=hbytes; simp only [List.length_nil,Nat.zero_add] at hb; omega)
   have hge:=grownCap_ge w ys.length 0 e
   have hle:=grownCap_le_maxLen w ys.length 0 e (by simpa using h63)
   have:=fresh (fun p=>p) [] (grownCap w ys.length 0 e) (fun p=>Hp.le_refl p) (fun p hp hl=>?_) (by simpa using hge) hle
   ·simp only [List.nil_append,List.length_nil,Nat.zero_add,Array.empty_append] at this
    exact ⟨_,_,hr,by simpa using this⟩
   ·refine ⟨rfl,?_⟩
    rcases hC p hp with ⟨_,_,hy'⟩ | ⟨g,cap,cs,sp,hv,_⟩
    ·exact hy'
    ·cases hv
 ·have hnl:news.length = ys.length * i.size:=by rw [hy.length,hsz']
  have hwg:=hl0 _ _ hgp
  have hcsl:=hx.length
  by_cases hroom:xs.length + ys.length ≤ cap
  ·have hfit:xs.length * i.size + news.length ≤ (cs ++ sp).toArray.size:=by
    simp only [List.size_toArray,hlen,hnl,hsz',← Nat.add_mul]
    exact Nat.mul_le_mul_right _ hroom
   have hr:=run_append_room (P:=P) w t ty e i hu hi g xs.length cap (cs ++ sp).toArray hwg q ys.length c news hnl hnews hy.one hroom hfit
   refine ⟨_,_,hr,?_⟩
   have harr:(cs ++ sp).toArray.toList.take (xs.length * i.size) ++ news ++ (cs ++ sp).toArray.toList.drop (xs.length * i.size + news.length) = (cs ++ news) ++ sp.drop news.length:=by
    rw [hsz',← hcsl]
    simp [List.drop_append]
   rw [harr]
   refine s.turn k hk _ rfl rfl rfl (by simp) fun p hp hl hb=>?_
   rcases hC p hp with ⟨hv,_,_⟩ | ⟨g',cap',cs',sp',hv,hgp',hlc',hcm',hlen',hx',hy'⟩
   ·cases hv
   ·simp only [Value.slice.injEq,Option.some.injEq,Addr.mk.injEq,and_true,true_and] at hv
    obtain ⟨rfl,rfl⟩:=hv
    have he:cs' = cs:=by
     have h1:=hl _ _ hgp'
     have h2:w.heap[g]? = some (.cells (cs ++ sp).toArray e (0,0)):=hwg
     have h3:w.heap[g]? = some (.cells (cs' ++ sp').toArray e (0,0)):=h1
     rw [h2] at h3
     have h4:cs ++ sp = cs' ++ sp':=by simpa using h3
     have h5:=congrArg (List.take cs.length) h4
     rw [List.take_left,hcsl,← hx'.length,List.take_left] at h5
     exact h5.symm
    subst he
    refine ⟨fun b hb' hn=>setRow_other w g b _ (fun e'=>by rw [e',hgp'] at hn; cases hn),fun b=>if b = g then some (.cells ((cs' ++ news) ++ sp.drop news.length).toArray e (0,0)) else p b,.inr ?_,fun b o hbo=>?_⟩
    ·refine ⟨g,cap,cs' ++ news,sp.drop news.length,by simp,by simp,by simpa using hroom,hcm,?_,?_⟩
     ·have h1:=hlen
      simp only [List.length_append,List.length_drop] at h1 ⊢
      have h2:cs'.length + news.length ≤ cap * Enc.sz α:=by rw [hcsl,hnl,hsz',← Nat.add_mul]; exact Nat.mul_le_mul_right _ hroom
      omega
     ·have hoff:Hp.off (fun b=>if b = g then some (.cells ((cs' ++ news) ++ sp.drop news.length).toArray e (0,0)) else p b) g = p.off g:=by
       funext b; unfold Hp.off; split <;> simp_all
      rw [hoff]
      exact RF.append hx' hy'
    ·dsimp only at hbo
     split at hbo
     ·rename_i hbg; subst hbg; cases hbo
      exact ⟨.inl (by rw [hgp']; simp),setRow_heap w b _ _ e (0,0) hwg⟩
     ·rename_i hbg
      exact ⟨.inl (by rw [hbo]; simp),by rw [setRow_other w g b _ hbg]; exact hl b o hbo⟩
  ·have holds:∀ j u,cs[j]? = some u→w.cell? ((⟨g,0,none⟩:Addr).add j) = some u:=fun j u hj=>by
    have hw:w.heap[g]? = some (.cells (cs ++ sp).toArray e (0,0)):=hwg
    rw [add_lit]
    simp [World.cell?,hw,List.getElem?_append_left (List.getElem?_eq_some_iff.1 hj).1,hj]
   have hr:=run_append_grow (P:=P) w t ty e i z hu hi hz' ⟨g,0,none⟩ xs.length cap cs (by rw [hcsl,hsz']) holds q ys.length c news hnl hnews (by omega) h63' (growslice_fits (by omega) hbytes)
   have hge:=grownCap_ge w (xs.length + ys.length) cap e
   have hle:=grownCap_le_maxLen w (xs.length + ys.length) cap e h63
   have:=fresh (fun p=>p.off g) cs (grownCap w (xs.length + ys.length) cap e) (fun p=>Hp.off_le p g) (fun p hp hl=>?_) hge hle
   ·exact ⟨_,_,hr,by simpa using this⟩
   ·rcases hC p hp with ⟨hv,_,_⟩ | ⟨g',cap',cs',sp',hv,hgp',hlc',hcm',hlen',hx',hy'⟩
    ·cases hv
    ·simp only [Value.slice.injEq,Option.some.injEq,Addr.mk.injEq,and_true,true_and] at hv
     obtain ⟨rfl,rfl⟩:=hv
     have he:cs' = cs:=by
      have h1:=hl _ _ hgp'
      have h2:w.heap[g]? = some (.cells (cs ++ sp).toArray e (0,0)):=hwg
      have h3:w.heap[g]? = some (.cells (cs' ++ sp').toArray e (0,0)):=h1
      rw [h2] at h3
      have h4:cs ++ sp = cs' ++ sp':=by simpa using h3
      have h5:=congrArg (List.take cs.length) h4
      rw [List.take_left,hcsl,← hx'.length,List.take_left] at h5
      exact h5.symm
     subst he
     exact ⟨hx',hy'⟩

theorem nilH_lt (k:Nat):∀ b o,nilH b = some o→b < k:=fun _ _ h=>by cases h
class Flat (α:Type) [Enc α]:Prop where
 any:∀ {h h':Hp} {x:α} {c:List Value},R h x c→R h' x c
theorem RF.any {α:Type} [Enc α] [Flat α] {h h':Hp}:∀ {xs:List α} {cs:List Value},RF h xs cs→RF h' xs cs
 | [],_,e=>e
 | _ :: _,_,⟨c,r,e,hx,hr⟩=>⟨c,r,e,Flat.any hx,RF.any hr⟩
instance:Flat Int:=⟨fun h=>h⟩
instance:Flat Bool:=⟨fun h=>h⟩
instance:Flat UInt8:=⟨fun h=>h⟩
instance:Flat UInt64:=⟨fun h=>h⟩
theorem rowAnd_flat {α:Type} [Enc α] [Flat α] {B:Hp} {e:TypeId} {v:Value} {xs ys:List α} {news:List Value} {h0:Hp} (hy:RF h0 ys news):∀ p,row B e v xs p→rowAnd B e v xs ys news p
 | p,.inl ⟨h1,h2⟩=>.inl ⟨h1,h2,hy.any⟩
 | p,.inr ⟨g,cap,cs,sp,h1,h2,h3,h4,h5,h6⟩=>.inr ⟨g,cap,cs,sp,h1,h2,h3,h4,h5,h6,hy.any⟩

theorem row_shape {α:Type} [Enc α] {B:Hp} {e:TypeId} {v:Value} {xs:List α} {p:Hp} (h:row B e v xs p):∃ q:Option Nat × Nat,v = .slice (q.1.map fun g=>⟨g,0,none⟩) xs.length q.2:=by
 rcases h with ⟨rfl,rfl⟩ | ⟨g,cap,cs,sp,rfl,_⟩
 ·exact ⟨(none,0),rfl⟩
 ·exact ⟨(some g,cap),rfl⟩
def rowV (q:Option Nat × Nat) (n:Nat):Value:=.slice (q.1.map fun g=>⟨g,0,none⟩) n q.2

theorem run_builtin_append {x y:Operand} {t:TypeId} {a:Act} {v u:Value} (k:Knows n fr a) (hx:ev fr x = some v) (hy:ev fr y = some u) {w w':World} {r:Value}
  (hr:(Builtin.append_ #[t,t] ty #[v,u]).run P w = .ok r w') :
  (execOp a.eval ⟨dst,.call { callee:=.builtin .append,args:=#[x,y],argTypes:=#[t,t] },ty,pos,aft,g⟩).run P w = .ok (.value r) w':=by
 simp [execOp,resolve,invoke,builtin,k.ev hx,k.ev hy,hr]

theorem Sd.app {α:Type} [Enc α] (k:Nat) {C:Ch} (hk:G[k]? = some C) {B:Hp} (hB:∀ b o,B b = some o→b < w0.heap.size) {x y:Operand} {t e:TypeId} {by':Nat} {z v:Value} {xs ys:List α} {news:List Value} {q:Addr} {m c:Nat}
  (ht:slTy P t = some (e,Enc.sz α,by')) (hz:zeroOf P e = some z) (hzs:z.cells.size = Enc.sz α) (hx:ev fr x = some v) (hy:ev fr y = some (.slice (some q) m c))
  (hC:∀ p,C p→rowAnd B e v xs ys news p) (hm:ys.length = m) (hnews:∀ w,Sat w0 G w→∀ j u,news[j]? = some u→w.cell? (q.add j) = some u) (hbytes:(xs.length + m) * by' ≤ 140737488355328) (h63:xs.length + m ≤ maxLen) :
  Sd P n ⟨dst,.call { callee:=.builtin .append,args:=#[x,y],argTypes:=#[t,t] },ty,pos,aft,g⟩ fr (Sat w0 G) (fun q=>rowV q (xs.length + m)) (fun q=>Sat w0 (G.set k (row B e (rowV q (xs.length + m)) (xs ++ ys)))):=fun a w kn s=>by
 obtain ⟨v',w',hr,hs⟩:=s.append (ty:=ty) hk ht hz hzs hB hC hm (hnews w s) hbytes h63 (c:=c)
 rw [run_builtin_append kn hx hy hr]
 have hkl:k < (G.set k (row B e v' (xs ++ ys))).length:=by simpa using (List.getElem?_eq_some_iff.1 hk).1
 obtain ⟨p,hp,_⟩:=hs.get k (List.getElem?_set_self (by simpa using hkl))
 obtain ⟨q',hq⟩:=row_shape hp
 simp only [List.length_append,hm] at hq
 exact ⟨q',hq,by show Sat w0 (G.set k (row B e (rowV q' (xs.length + m)) (xs ++ ys))) w'; rw [show rowV q' (xs.length + m) = v' from hq.symm]; exact hs⟩
theorem Sd.app1 {α:Type} [Enc α] [Flat α] (k k1:Nat) {B:Hp} {x y:Operand} {t e e':TypeId} {by':Nat} {z v:Value} {xs:List α} {y0:α} {news:List Value} {b c:Nat}
  (hk:G[k]? = some (row B e v xs)) (hk1:G[k1]? = some (blk b news e')) (hB:∀ b o,B b = some o→b < w0.heap.size)
  (ht:slTy P t = some (e,Enc.sz α,by')) (hz:zeroOf P e = some z) (hzs:z.cells.size = Enc.sz α) (hx:ev fr x = some v) (hy:ev fr y = some (.slice (some ⟨b,0,none⟩) 1 c))
  (hr:R nilH y0 news) (hbytes:(xs.length + 1) * by' ≤ 140737488355328) (h63:xs.length + 1 ≤ maxLen) :
  Sd P n ⟨dst,.call { callee:=.builtin .append,args:=#[x,y],argTypes:=#[t,t] },ty,pos,aft,g⟩ fr (Sat w0 G) (fun q=>rowV q (xs.length + 1)) (fun q=>Sat w0 (G.set k (row B e (rowV q (xs.length + 1)) (xs ++ [y0])))) :=
 Sd.app (ys:=[y0]) (news:=news) k hk hB ht hz hzs hx hy (rowAnd_flat (RF.single hr)) rfl (fun w s j u hj=>by
  rw [add_lit]; simp [World.cell?,(s.getBlk hk1).1,hj]) hbytes h63
def evp (fr:Fr):List (Nat × Operand)→Option (List (Nat × Value))
  | []=>some []
  | (i,x) :: r=>match ev fr x,evp fr r with
    | some v,some l=>some ((i,v) :: l)
    | _,_=>none
theorem Knows.evp {a:Act} (k:Knows n fr a):∀ {xs:List (Nat × Operand)} {vs:List (Nat × Value)},Vg.evp fr xs = some vs→xs.map (fun (i,x)=>(i,a.eval x)) = vs
 | [],vs,h=>by simp [Vg.evp] at h; simp [h]
 | (i,x) :: r,vs,h=>by
  unfold Vg.evp at h
  split at h
  ·rename_i v l hv hl
   cases h
   simp only [List.map_cons,k.ev hv,List.cons.injEq,true_and]
   exact k.evp hl
  ·cases h
def fillL (place:Nat→Option (Nat × Nat)):List Value→List (Nat × Value)→Option (List Value)
  | cells,[]=>some cells
  | cells,(i,v) :: rest=>match place i with
    | none=>none
    | some (off,size)=>bif Nat.beq v.cells.toList.length size && Nat.ble (off + v.cells.toList.length) cells.length then fillL place (cells.take off ++ v.cells.toList ++ cells.drop (off + v.cells.toList.length)) rest else none
theorem splice_fold (off:Nat):∀ (c:List Value) (k:Nat) (ar:Array Value),off + k + c.length ≤ ar.size →
  ((c.zipIdx k).foldl (fun (cs:Array Value) (x:Value × Nat)=>cs.setIfInBounds (off + x.2) x.1) ar).toList = ar.toList.take (off + k) ++ c ++ ar.toList.drop (off + k + c.length)
 | [],k,ar,_=>by simp
 | x :: c,k,ar,h=>by
  simp only [List.length_cons] at h
  rw [List.zipIdx_cons,List.foldl_cons]
  have:=splice_fold off c (k + 1) (ar.setIfInBounds (off + k) x) (by simp; omega)
  rw [this]
  simp only [Array.toList_setIfInBounds,List.length_cons]
  have hlt:off + k < ar.toList.length:=by simp; omega
  rw [show off + (k + 1) = off + k + 1 by omega,List.drop_set_of_lt (by omega)]
  have e:(ar.toList.set (off + k) x).take (off + k + 1) = ar.toList.take (off + k) ++ [x]:=by
   rw [List.take_succ_eq_append_getElem (by simpa using hlt),List.take_set_of_le (Nat.le_refl _)]
   simp
  rw [e,show off + k + 1 + c.length = off + k + (c.length + 1) by omega]
  simp
theorem fill_of {place:Nat→Option (Nat × Nat)}:∀ {ps:List (Nat × Value)} {cells r:List Value},fillL place cells ps = some r→Instr.fill place cells.toArray ps = some r.toArray
 | [],cells,r,h=>by simp [fillL] at h; simp [Instr.fill,h]
 | (i,v) :: rest,cells,r,h=>by
  unfold fillL at h
  unfold Instr.fill
  cases hp:place i with
  | none=>simp [hp] at h
  | some os =>
   obtain ⟨off,size⟩:=os
   simp only [hp] at h ⊢
   cases hb:(Nat.beq v.cells.toList.length size && Nat.ble (off + v.cells.toList.length) cells.length) with
   | false=>simp only [hb,cond_false,reduceCtorEq] at h
   | true =>
    simp only [hb,cond_true] at h
    simp only [Bool.and_eq_true] at hb
    have h1:v.cells.size = size:=by have:=Nat.eq_of_beq_eq_true hb.1; simpa using this
    have h2:off + v.cells.size ≤ cells.length:=by have:=Nat.le_of_ble_eq_true hb.2; simpa using this
    rw [if_neg (by simp [h1]; omega)]
    have e:(v.cells.zipIdx.foldl (fun cs (c,j)=>cs.setIfInBounds (off + j) c) cells.toArray) = (cells.take off ++ v.cells.toList ++ cells.drop (off + v.cells.toList.length)).toArray:=by
     apply Array.ext'
     rw [← Array.foldl_toList,Array.toList_zipIdx]
     have:=splice_fold off v.cells.toList 0 cells.toArray (by simpa using h2)
     simpa using this
    rw [e]
    exact fill_of h
def litCells (sz len:Nat) (z:Value) (ps:List (Nat × Value)):Option (List Value):=fillL (fun i=>some (i * sz,sz)) (List.replicate len z.cells.toList).flatten ps
theorem madeCells_flat (z:Array Value) (hz:0 < z.size) (n:Nat):(madeCells z (n * z.size)).toList = (List.replicate n z.toList).flatten:=by
 induction n with
 | zero=>simp [madeCells]
 | succ n ih =>
  rw [List.replicate_succ',List.flatten_concat,← ih]
  unfold madeCells
  rw [show (n + 1) * z.size = n * z.size + z.size by rw [Nat.add_mul]; omega]
  apply List.ext_getElem
  ·simp
  ·intro j h1 h2
   simp only [Array.toList_map,List.getElem_map,Array.getElem_toList,Array.getElem_range]
   by_cases hj:j < n * z.size
   ·rw [List.getElem_append_left (by simpa using hj)]
    simp
   ·rw [List.getElem_append_right (by simpa using hj)]
    have h3:j < n * z.size + z.size:=by simpa using h1
    have h4:j % z.size = j - n * z.size:=by
     rw [show j = (j - n * z.size) + n * z.size by omega,Nat.add_mul_mod_self_right,Nat.mod_eq_of_lt (by omega)]
     omega
    simp only [List.length_map,Array.length_toList,Array.size_range]
    rw [h4]
    simp only [Array.getElem_toList]
    rw [getElem!_pos z _ (by omega)]
theorem Sd.litS {t e:TypeId} {len sz by':Nat} {z:Value} {xs:List (Nat × Operand)} {vs:List (Nat × Value)} {cs:List Value} (ht:slTy P t = some (e,sz,by')) (hz:zeroOf P e = some z) (hl:Nat.ble (len * sz) 16777216 = true) (h0:Nat.blt 0 (len * sz) = true) (hzs:Nat.beq z.cells.size sz = true)
  (hx:evp fr xs = some vs) (hc:litCells sz len z vs = some cs) :
  Sd P n ⟨dst,.buildSlice t len xs.toArray,ty,pos,aft,g⟩ fr (Sat w0 G) (fun b:Nat=>.slice (some ⟨b,0,none⟩) len len) (fun b=>Sat w0 (G ++ [blk b cs e])):=fun a w k s=>by
 obtain ⟨hu,i,hi,hsz,_⟩:=slTy_spec ht
 obtain ⟨i',hi',hz'⟩:=Option.bind_eq_some_iff.1 hz
 rw [hi] at hi'; cases hi'
 have hl':¬ (16777216 < len * sz):=by have:len * sz ≤ 16777216:=Nat.le_of_ble_eq_true hl; omega
 have h0':¬ (len * sz = 0):=by
  have:1 ≤ len * sz:=by simpa [Nat.blt] using h0
  omega
 have hv:=k.evp hx
 have hm:(xs.toArray.map fun x=>match x with | (i,x)=>(i,a.eval x)).toList = vs:=by simp; exact hv
 have hzs':z.cells.size = sz:=Nat.eq_of_beq_eq_true hzs
 have hzp:0 < z.cells.size:=by
  rcases Nat.eq_zero_or_pos z.cells.size with h | h
  ·rw [← hzs',h] at h0'; simp at h0'
  ·exact h
 have har:Instr.fill (fun i=>some (i * sz,sz)) (madeCells z.cells (len * sz)) vs = some cs.toArray:=by
  have e:madeCells z.cells (len * sz) = (List.replicate len z.cells.toList).flatten.toArray:=by
   apply Array.ext'
   rw [← hzs',madeCells_flat z.cells hzp]
  rw [e]; exact fill_of hc
 unfold madeCells at har
 have:(execOp a.eval ⟨dst,.buildSlice t len xs.toArray,ty,pos,aft,g⟩).run P w = .ok (.value (.slice (some ⟨w.heap.size,0,none⟩) len len)) (w.alloc (.cells cs.toArray e)):=by
  have h2:(Instr.buildSlice t len (xs.toArray.map fun (i,x)=>(i,a.eval x))).run P w = .ok (.slice (some ⟨w.heap.size,0,none⟩) len len) (w.alloc (.cells cs.toArray e)):=by
   have h00:len = 0 ∨ sz = 0→False:=fun h=>h0' (by rcases h with h | h <;> simp [h])
   simp only [Instr.buildSlice,Sem.run_bind,run_underlying hu,Result.andThen_ok,run_sizeOf_info hi,hsz,Sem.run_ite,hm]
   rw [if_neg (by simpa using hl'),if_neg h0']
   simp [zeroValue,typeInfo,hi,hz',har,newRow]
  simp only [execOp,Sem.run_bind,h2,Result.andThen_ok,Sem.run_pure]
 rw [this]
 exact ⟨w.heap.size,rfl,s.newBlk rfl (Ext.refl w) cs e⟩

theorem Sat.newRow {α:Type} [Enc α] {w:World} (s:Sat w0 G w) {w':World} (hw:w'.heap = w.heap) (he:Ext w w') (B:Hp) (e:TypeId) (xs:List α) (cs:List Value) (cap:Nat) (sp:List Value) (hle:xs.length ≤ cap) (hm:cap ≤ maxLen) (hl:(cs ++ sp).length = cap * Enc.sz α) (hr:RF nilH xs cs) :
  Sat w0 (G ++ [row B e (.slice (some ⟨w.heap.size,0,none⟩) xs.length cap) xs]) (w'.alloc (.cells (cs ++ sp).toArray e)):=by
 have s1:=s.newBlk hw he (cs ++ sp) e
 have hlen:(G ++ [blk w.heap.size (cs ++ sp) e])[G.length]? = some (blk w.heap.size (cs ++ sp) e):=by simp
 have:=s1.weaken G.length hlen (row B e (.slice (some ⟨w.heap.size,0,none⟩) xs.length cap) xs) fun p hp=>.inr ⟨_,cap,cs,sp,rfl,hp,hle,hm,hl,hr.mono (nilH_le _)⟩
 simpa using this
theorem Sd.make {α:Type} [Enc α] {x y:Operand} {t e:TypeId} {by':Nat} {z:Value} {l:Int} {kl kc:IntKind} {B:Hp} (x0:α) (ht:slTy P t = some (e,Enc.sz α,by')) (hz:zeroOf P e = some z) (hr:R nilH x0 z.cells.toList) (hs:0 < Enc.sz α)
  (hx:ev fr x = some (.int kl l)) (hy:ev fr y = some (.int kc l)) (h0:0 ≤ l) (hb:(by':Int) * l ≤ 281474976710656) (h63:l ≤ 9223372036854775807) :
  Sd P n ⟨dst,.makeSlice t x y,ty,pos,aft,g⟩ fr (Sat w0 G) (fun b:Nat=>.slice (some ⟨b,0,none⟩) l.toNat l.toNat) (fun b=>Sat w0 (G ++ [row B e (.slice (some ⟨b,0,none⟩) l.toNat l.toNat) (List.replicate l.toNat x0)])):=fun a w k s=>by
 obtain ⟨hu,i,hi,hsz,rfl⟩:=slTy_spec ht
 obtain ⟨i',hi',hz'⟩:=Option.bind_eq_some_iff.1 hz
 rw [hi] at hi'; cases hi'
 have hr':=run_make (P:=P) w t e i z hu hi hz' kl kc l l h0 (Int.le_refl _) hb h63
 have hzl:z.cells.size = Enc.sz α:=by have:=Enc.len hr; simpa using this
 have:(execOp a.eval ⟨dst,.makeSlice t x y,ty,pos,aft,g⟩).run P w = .ok (.value (.slice (some ⟨w.heap.size,0,none⟩) l.toNat l.toNat)) (w.alloc (.cells (madeCells z.cells (l.toNat * i.size)) e)):=by
  simp only [execOp,k.ev hx,k.ev hy,Sem.run_bind,hr',Result.andThen_ok,Sem.run_pure]
 rw [this]
 refine ⟨w.heap.size,rfl,?_⟩
 have h1:=s.newRow rfl (Ext.refl w) B e (List.replicate l.toNat x0) (List.replicate l.toNat z.cells.toList).flatten l.toNat [] (by simp) (by unfold maxLen; omega) (by
  have:=(RF.replicate hr l.toNat).length; simp only [List.append_nil,this,List.length_replicate]) (RF.replicate hr l.toNat)
 simp only [List.length_replicate,List.append_nil] at h1
 have h2:madeCells z.cells (l.toNat * i.size) = (List.replicate l.toNat z.cells.toList).flatten.toArray:=by
  apply Array.ext'
  rw [hsz,← hzl,madeCells_flat z.cells (by omega)]
 rw [h2]; exact h1

theorem Qt.ldE {α:Type} [Enc α] {t:TypeId} {x:Operand} {xs:List α} {b o off len cap i j:Nat} {x0:α} {v:Value} (hR:Rd S xs [.slice (some ⟨b,o,none⟩) len cap]) (hx0:xs[i]? = some x0) (ht:tySz P t = some (1,false))
  (hx:ev fr x = some (.pointer (some ⟨b,off,none⟩))) (ho:off = o + i * Enc.sz α + j) (hv:∀ h c,R h x0 c→c[j]? = some v) :
  Qt P n ⟨dst,.load t x,ty,pos,aft,g⟩ fr S v:=Qt.ld ht hx fun w s=>by
 obtain ⟨c,hc,hg⟩:=hR.elem hx0 rfl s
 rw [ho]
 exact hg j v (hv _ c hc)
theorem Qt.ldEA {α:Type} [Enc α] {t sz:TypeId} {x:Operand} {xs:List α} {b o off len cap i:Nat} {x0:α} {cs:List Value} (hR:Rd S xs [.slice (some ⟨b,o,none⟩) len cap]) (hx0:xs[i]? = some x0) (ht:tySz P t = some (sz,true))
  (hx:ev fr x = some (.pointer (some ⟨b,off,none⟩))) (ho:off = o + i * Enc.sz α) (hl:cs.length = sz) (hv:∀ h c,R h x0 c→c = cs) :
  Qt P n ⟨dst,.load t x,ty,pos,aft,g⟩ fr S (.agg cs.toArray):=Qt.ldA ht hx hl fun w s j v hj=>by
 obtain ⟨c,hc,hg⟩:=hR.elem hx0 rfl s
 rw [ho]
 exact hg j v (by rw [hv _ c hc]; exact hj)
theorem Sd.stE {α:Type} [Enc α] (k:Nat) {t e:TypeId} {B:Hp} {x y:Operand} {xs:List α} {b off cap i j sz len:Nat} {gg:Bool} {x0 x1:α} {v:Value} {us:List Value} (hk:G[k]? = some (row B e (.slice (some ⟨b,0,none⟩) len cap) xs)) (hx0:xs[i]? = some x0) (ht:tySz P t = some (sz,gg))
  (hx:ev fr x = some (.pointer (some ⟨b,off,none⟩))) (hy:ev fr y = some v) (ho:off = 0 + i * Enc.sz α + j) (hv:v.cells.toList = us) (hl:us.length = sz) (hj:j + sz ≤ Enc.sz α)
  (h1:us.all (·.oneCell') = true) (hn:∀ h c,R h x0 c→R h x1 (c.take j ++ us ++ c.drop (j + sz))) :
  Sd P n ⟨none,.store t x y,ty,pos,aft,g⟩ fr (Sat w0 G) (fun _:Unit=>undef) (fun _=>Sat w0 (G.set k (row B e (.slice (some ⟨b,0,none⟩) len cap) (xs.set i x1)))):=fun a w kn s=>by
 have hil:i < xs.length:=(List.getElem?_eq_some_iff.1 hx0).1
 obtain ⟨p0,hp0,hl0,hb0⟩:=s.get k hk
 rcases hp0 with ⟨hv',_⟩ | ⟨g',cap',cs,sp,hv',hgp,hlc,hcm,hlen,hr⟩
 ·cases hv'
 simp only [Value.slice.injEq,Option.some.injEq,Addr.mk.injEq,and_true,true_and] at hv'
 obtain ⟨rfl,rfl,rfl⟩:=hv'
 have hcl:=hr.length
 have hib:i * Enc.sz α + Enc.sz α ≤ xs.length * Enc.sz α:=by
  have:=Nat.mul_le_mul_right (Enc.sz α) (show i + 1 ≤ xs.length by omega)
  rw [Nat.add_mul] at this; omega
 have hrun:=run_storeVar1 (P:=P) (o:=off) ht (hl0 _ _ hgp) hv hl (by simp only [List.length_append]; omega) (fun u hu=>List.all_eq_true.1 h1 u hu)
 simp [execOp,kn.ev hx,kn.ev hy,Instr.storeAt,Instr.sureAddr,hrun,solidRes]
 refine s.turn k hk _ rfl rfl rfl (by simp) fun p hp hlp hb=>?_
 rcases hp with ⟨hv'',_⟩ | ⟨g',cap',cs',sp',hv'',hgp',hlc',hcm',hlen',hr'⟩
 ·cases hv''
 simp only [Value.slice.injEq,Option.some.injEq,Addr.mk.injEq,and_true,true_and] at hv''
 obtain ⟨rfl,rfl,rfl⟩:=hv''
 have he:cs' = cs∧sp' = sp:=by
  have h1:=hlp _ _ hgp'
  have h2:w.heap[b]? = some (.cells (cs ++ sp).toArray e (0,0)):=hl0 _ _ hgp
  have h3:w.heap[b]? = some (.cells (cs' ++ sp').toArray e (0,0)):=h1
  rw [h2] at h3
  have h4:cs ++ sp = cs' ++ sp':=by simpa using h3
  have h5:=congrArg (List.take cs.length) h4
  rw [List.take_left,hcl,← hr'.length,List.take_left] at h5
  have h6:=congrArg (List.drop cs.length) h4
  rw [List.drop_left,hcl,← hr'.length,List.drop_left] at h6
  exact ⟨h5.symm,h6.symm⟩
 obtain ⟨rfl,rfl⟩:=he
 obtain ⟨c,hc,hg⟩:=hr'.get hx0
 have hcl2:=Enc.len hc
 have hset:=hr'.set hil (hn _ c hc)
 have hce:c = (cs'.drop (i * Enc.sz α)).take (Enc.sz α):=by
  apply List.ext_getElem?
  intro j
  rw [List.getElem?_take,List.getElem?_drop]
  by_cases hj:j < Enc.sz α
  ·rw [if_pos hj]
   cases hcj:c[j]? with
   | none=>rw [List.getElem?_eq_none_iff] at hcj; omega
   | some v=>rw [hg j v hcj]
  ·rw [if_neg hj,List.getElem?_eq_none]; omega
 have harr:(cs' ++ sp').take off ++ us ++ (cs' ++ sp').drop (off + sz) = (cs'.take (i * Enc.sz α) ++ (c.take j ++ us ++ c.drop (j + sz)) ++ cs'.drop (i * Enc.sz α + Enc.sz α)) ++ sp':=by
  have e1:cs'.take (i * Enc.sz α) ++ c.take j = cs'.take off:=by
   rw [hce,List.take_take,Nat.min_eq_left (by omega),ho,Nat.zero_add,List.take_add]
  have e2:c.drop (j + sz) ++ cs'.drop (i * Enc.sz α + Enc.sz α) = cs'.drop (off + sz):=by
   rw [hce,List.drop_take,List.drop_drop,ho,Nat.zero_add]
   have:cs'.drop (i * Enc.sz α + Enc.sz α) = (cs'.drop (i * Enc.sz α + (j + sz))).drop (Enc.sz α - (j + sz)):=by rw [List.drop_drop]; congr 1; omega
   rw [this,List.take_append_drop,Nat.add_assoc]
  rw [List.take_append_of_le_length (by omega),List.drop_append_of_le_length (by omega),← e1,← e2]
  simp [List.append_assoc]
 have harr':((cs' ++ sp').take off ++ (us ++ (cs' ++ sp').drop (off + sz))) = (cs'.take (i * Enc.sz α) ++ (c.take j ++ us ++ c.drop (j + sz)) ++ cs'.drop (i * Enc.sz α + Enc.sz α)) ++ sp':=by
  rw [← harr]; simp [List.append_assoc]
 refine ⟨fun d hd hdn=>setRow_other w b d _ (fun e'=>by rw [e',hgp'] at hdn; cases hdn),fun d=>if d = b then some (.cells ((cs' ++ sp').take off ++ (us ++ (cs' ++ sp').drop (off + sz))).toArray e (0,0)) else p d,.inr ⟨b,cap,cs'.take (i * Enc.sz α) ++ (c.take j ++ us ++ c.drop (j + sz)) ++ cs'.drop (i * Enc.sz α + Enc.sz α),sp',by simp,?_,by simpa using hlc,hcm,?_,?_⟩,fun d o' hdo=>?_⟩
 ·simp only [if_pos]; rw [harr']
 ·have:=congrArg List.length harr'
  rw [← this]
  simp only [List.length_append,List.length_take,List.length_drop] at hlen ⊢
  omega
 ·have hoff:Hp.off (fun d=>if d = b then some (.cells ((cs' ++ sp').take off ++ (us ++ (cs' ++ sp').drop (off + sz))).toArray e (0,0)) else p d) b = p.off b:=by
   funext d; unfold Hp.off; split <;> simp_all
  rw [hoff]; exact hset
 ·dsimp only at hdo
  split at hdo
  ·rename_i hdb; subst hdb; cases hdo
   exact ⟨.inl (by rw [hgp']; simp),by
    have:=setRow_heap w d (cs' ++ sp').toArray ((cs' ++ sp').take off ++ (us ++ (cs' ++ sp').drop (off + sz))).toArray e (0,0) (hlp _ _ hgp')
    simpa using this⟩
  ·rename_i hdb
   exact ⟨.inl (by rw [hdo]; simp),by rw [setRow_other w b d _ hdb]; exact hlp d o' hdo⟩
end
end Go.Vg
