/-
  Texts of one's own, joined: WA LP LF.
-/
import Derived.Test.YtmngdgclldkcfaaGreatJ14
import Derived.RangeFuncIn
import Derived.RangeFuncRecord
import Derived.RangeFuncLeaves
import Derived.TacticsIn
import Derived.OrdersIn
import Derived.Sort.LoopGhostIn
import Derived.Test.YtmngdgclldkcfaaGreatJ15
import Derived.Test.YtmngdgclldkcfaaGreatJ18
import Derived.Test.YtmngdgclldkcfaaGreatRows
import Derived.Test.YtmngdgclldkcfaaGreatJ6
import Derived.Test.YtmngdgclldkcfaaGreatJ7
set_option linter.unusedSimpArgs false
set_option linter.unusedVariables false
namespace Go.Vg
open Go.RowKit (Below)
open Enc (R)
open Go.MapKept
def WF (ro:Option Nat):Fence:={ Fence.wide with round:=ro }
def noDef (a:Act):Act:={ a with defers:=[] }
structure KD (N:Nat) (ds:List Deferred) (fr:Fr) (a:Act):Prop where
  k:Knows N fr (noDef a)
  d:a.defers = ds
theorem eval_noDef (a:Act):(noDef a).eval = a.eval:=by funext x; cases x <;> rfl
theorem callsWF {ro:Option Nat} {n:Nat} {P:Program} {f:FuncId} {args:Array Value} {w:World} {R:Ending→World→Prop} (h:Calls P f args w R):CallsIn (WF ro) n P f args w R :=
 (callsIn_wide (n:=n)).2 h
theorem KD.putF {N:Nat} {ds:List Deferred} {fr:Fr} {a:Act} (h:KD N ds fr a) {d:Option Nat} (hd:dOk N d = true) (v:Value):KD N ds (putF d v fr) (a.put d v):=by
 refine ⟨?_,?_⟩
 ·have:=h.k.putF hd v
  cases d <;> exact this
 ·cases d <;> exact h.d
theorem KD.sub {N:Nat} {ds:List Deferred} {fr r:Fr} {a:Act} (h:KD N ds fr a) (hs:Sub fr r):KD N ds r a:=⟨h.k.sub hs,h.d⟩
theorem notDef {P:Program} {ρ:Operand→Value} {o:Oper} {w:World} {ι:Type} {val:ι→Value} {S':ι→As} (h:solidRes P val S' ((execOp ρ o).run P w)):∀ c,o.op ≠ .defer c:=by
 intro c e
 unfold execOp at h
 rw [e] at h
 simp only [Sem.run_bind] at h
 cases hr:(resolve ρ c o.type).run P w with
 | ok d w'=>rw [hr] at h; simp [Result.andThen,solidRes] at h
 | halt x w'=>rw [hr] at h; simp [Result.andThen,solidRes] at h

def TR (ro:Option Nat) (P:Program) (N:Nat) (c:Code) (ds:List Deferred) (fr:Fr) (S:As) (Q:Po):Prop:=∀ a w,KD N ds fr a→S w→c.wpIn (WF ro) 0 P Q a w
def RR (ro:Option Nat) (P:Program) (N:Nat) (ops:Array Oper) (Q:Po) (l:List Oper) (ds:List Deferred) (fr:Fr) (S:As):Prop:=∀ a w,KD N ds fr a→S w→wpListIn (WF ro) 0 P ops Q l a w
def CR (N:Nat) (K:Act→World→Prop) (ds:List Deferred) (fr:Fr) (S:As):Prop:=∀ a w,KD N ds fr a→S w→K a w
section
variable {ro:Option Nat} {P:Program} {N:Nat} {ops:Array Oper} {Q:Po} {rest:List Oper} {ds:List Deferred} {fr:Fr} {S:As} {o:Oper} {K:Act→World→Prop}
theorem RR.nil (h:CR N (Q .normal) ds fr S):RR ro P N ops Q [] ds fr S:=fun a w k s=>wpListIn_nil (h a w k s)
theorem RR.solid {ι:Type} {val:ι→Value} {S':ι→As} (h:Sd P N o fr S val S') (hg:gval ops fr o.guard = some true) (hd:dOk N o.dst = true)
  (hr:∀ i,RR ro P N ops Q rest ds (putF o.dst (val i) fr) (S' i)):RR ro P N ops Q (o :: rest) ds fr S:=by
 intro a w k s
 have hw:Region.wanted o (yielded ops a.tmps) = true:=wanted_of (a:=noDef a) k.k hg
 unfold wpListIn
 rw [if_pos hw]
 have:=h (noDef a) w k.k s
 rw [eval_noDef] at this
 refine ⟨fun _ _=>trivial,?_⟩
 rw [Oper.semAt_eq _ _ _ (notDef this)]
 revert this
 generalize (execOp a.eval o).run P w = r
 intro h
 cases r with
 | ok x w' =>
  cases x <;> simp only [solidRes,Oper.uponIn] at h ⊢
  case value u=>obtain ⟨i,rfl,hs⟩:=h; exact hr i _ _ (k.putF hd _) hs
  case skip=>obtain ⟨i,hu,hs⟩:=h; rw [← hu]; exact hr i _ _ (k.putF hd _) hs
  case enter f args=>exact ⟨fun h=>(by cases h),callsWF (h.mono fun e w'' ⟨i,he,hs⟩=>by subst he; exact hr i _ _ (k.putF hd _) hs)⟩
 | halt x w'=>exact h.elim
theorem RR.q {v:Value} {w0:World} {G:List Ch} (h:Qt P N o fr (Sat w0 G) v) (hg:gval ops fr o.guard = some true) (hd:dOk N o.dst = true) (hr:RR ro P N ops Q rest ds (Vg.putF o.dst v fr) (Sat w0 G)):RR ro P N ops Q (o :: rest) ds fr (Sat w0 G) :=
 RR.solid (h.sd (ClE.sat w0 G) (fun _ s=>s)) hg hd fun _=>hr
theorem RR.p {v:Value} (h:Pu P N o fr v) (hg:gval ops fr o.guard = some true) (hd:dOk N o.dst = true) (hr:RR ro P N ops Q rest ds (Vg.putF o.dst v fr) S):RR ro P N ops Q (o :: rest) ds fr S:=by
 refine RR.solid (val:=fun _:Unit=>v) (S':=fun _=>S) (fun a w k s=>?_) hg hd fun _=>hr
 rw [h a k w]; exact ⟨(),rfl,s⟩
theorem RR.round {l:Nat} {ι:Type} {val:ι→Value} {S':ι→As} (hnd:∀ c,o.op ≠ .defer c)
  (h:∀ a w,Knows N fr a→S w→∃ fn tmps assign body,(execOp a.eval o).run P w = .ok (.round l fn tmps assign body) w∧RoundIn (WF ro) 0 P l fn tmps assign body w (fun e w'=>∃ i,e = .returned (val i)∧S' i w'))
  (hg:gval ops fr o.guard = some true) (hd:dOk N o.dst = true)
  (hr:∀ i,RR ro P N ops Q rest ds (Vg.putF o.dst (val i) fr) (S' i)):RR ro P N ops Q (o :: rest) ds fr S:=by
 intro a w k s
 have hw:Region.wanted o (yielded ops a.tmps) = true:=wanted_of (a:=noDef a) k.k hg
 unfold wpListIn
 rw [if_pos hw]
 obtain ⟨fn,tmps,assign,body,h1,h2⟩:=h (noDef a) w k.k s
 rw [eval_noDef] at h1
 refine ⟨fun _ _=>trivial,?_⟩
 rw [Oper.semAt_eq _ _ _ hnd,h1]
 exact ⟨fun h=>(by cases h),h2.mono fun e w' ⟨i,he,hs⟩=>by subst he; exact hr i _ _ (k.putF hd _) hs⟩
theorem TR.conseq {c:Code} {fr':Fr} {S':As} (h:TR ro P N c ds fr' S' Q) (hf:Sub fr fr') (hs:∀ w,S w→S' w):TR ro P N c ds fr S Q:=fun a w k s=>h a w (k.sub hf) (hs w s)
theorem CR.conseq {fr':Fr} {S':As} (h:CR N K ds fr' S') (hf:Sub fr fr') (hs:∀ w,S w→S' w):CR N K ds fr S:=fun a w k s=>h a w (k.sub hf) (hs w s)
theorem TR.seq {x y:Code} (h:∀ K:Act→World→Prop,(∀ ds' fr' S',TR ro P N y ds' fr' S' Q→CR N K ds' fr' S')→TR ro P N x ds fr S (Exit.then K Q)):TR ro P N (x.seq y) ds fr S Q :=
 fun a w k s=>wpIn_seq (h (y.wpIn (WF ro) 0 P Q) (fun _ _ _ ht=>ht) a w k s)
theorem TR.skip (h:CR N (Q .normal) ds fr S):TR ro P N .skip ds fr S Q:=fun a w k s=>wpIn_skip (h a w k s)
theorem TR.ret (h:CR N (Q .ret) ds fr S):TR ro P N .ret ds fr S Q:=fun a w k s=>wpIn_ret (h a w k s)
theorem TR.exit {id:Nat} (h:CR N (Q (.exit id)) ds fr S):TR ro P N (.exit id) ds fr S Q:=fun a w k s=>wpIn_exit (h a w k s)
theorem TR.block {id:Nat} {c:Code} (h:TR ro P N c ds fr S (Exit.inBlock id Q)):TR ro P N (.block id c) ds fr S Q:=fun a w k s=>wpIn_block (h a w k s)
theorem TR.cond {c:Operand} {x y:Code} {b:Bool} (hc:ev fr c = some (.bool b)) (ht:b = true→TR ro P N x ds fr S Q) (hf:b = false→TR ro P N y ds fr S Q):TR ro P N (.cond c x y) ds fr S Q :=
 fun a w k s=>wpIn_cond_split (by rw [← eval_noDef]; exact k.k.ev hc) (fun h=>ht h a w k s) (fun h=>hf h a w k s)
theorem TR.region {id:Nat} {l:List Oper} (h:RR ro P N l.toArray Q l ds fr S):TR ro P N (.region id l.toArray false) ds fr S Q:=fun a w k s=>wpIn_region_lit (h a w k s)
theorem TR.loop {σ:Type} (FR:σ→Fr) (SS:σ→As) (I:σ→Prop) (m:σ→Nat) {c:Code} (x0:σ) (hi:I x0) (h0:Sub fr (FR x0)) (hs:∀ w,S w→SS x0 w)
  (round:∀ x,I x→∀ K:Act→World→Prop,(∀ fr' S' x',I x'→m x' < m x→Sub fr' (FR x')→(∀ w,S' w→SS x' w)→CR N K ds fr' S')→TR ro P N c ds (FR x) (SS x) (Exit.then K Q)):TR ro P N (.loop c) ds fr S Q:=by
 intro a w k s
 refine wpIn_loop_ghost (fun r a w=>∃ x,I x∧KD N ds (FR x) a∧SS x w∧m x = r) (m x0) ⟨x0,hi,k.sub h0,hs w s,rfl⟩ ?_
 rintro r a w ⟨x,hx,hk,hss,rfl⟩
 refine round x hx _ ?_ a w hk hss
 intro fr' S' x' hi' hlt hsub hs' a' w' k' s'
 exact ⟨m x',hlt,x',hi',k'.sub hsub,hs' w' s',rfl⟩
end
def lift (ds:List Deferred) (Q:Po):Po:=fun e b w=>∀ a,noDef a = b→a.defers = ds→Q e a w
theorem CR.lift {N:Nat} {Q:Po} {ds:List Deferred} {fr:Fr} {S:As} {e:Exit} (h:CR N (Q e) ds fr S):Cont N (lift ds Q e) fr S:=fun a w k s a2 he hd=>h a2 w ⟨he ▸ k,hd⟩ s
section
variable {ro:Option Nat} {P:Program} {n:Nat} {ops:Array Oper} {Q:Po} {kd:Nat→Kd} {Cw:As} {ds:List Deferred}
theorem AX.soundIn:∀ (m:Nat) (listed:Array Bool) (fr:Fr) (S:As),AX P n ops (lift ds Q) kd Cw m listed fr S→∀ a w,KD n ds fr a→S w→wpAnyIn (WF ro) 0 P .any ops Q m listed a w
 | 0,_,_,_,h,a,w,k,s=>⟨h.1,h.2 (noDef a) w k.k s a rfl k.d⟩
 | m + 1,listed,fr,S,h,a,w,k,s=>by
  refine ⟨fun h0=>h.1 h0 (noDef a) w k.k s a rfl k.d,fun j hj=>?_⟩
  have:=h.2 j hj
  unfold StepX at this
  unfold wpOpIn
  split
  ·rename_i ho; simp only [ho] at this; exact AX.soundIn m _ _ _ this a w k s
  ·rename_i o ho
   simp only [ho] at this
   obtain ⟨hd,⟨h1,h2⟩ | ⟨h1,ι,val,S',h2,h3,h4,h5,h6⟩⟩:=this
   ·have hw:Region.wanted o (yielded ops a.tmps) = false:=wanted_of (a:=noDef a) k.k h1
    rw [hw,if_neg (by simp)]
    exact ⟨fun _ _=>trivial,AX.soundIn m _ _ _ h2 _ w (k.putF hd _) s⟩
   ·have hw:Region.wanted o (yielded ops a.tmps) = true:=wanted_of (a:=noDef a) k.k h1
    rw [if_pos hw]
    have:=h2 (noDef a) w k.k s
    rw [eval_noDef] at this
    refine ⟨fun _ _=>trivial,?_⟩
    rw [Oper.semAt_eq _ _ _ (notDef this)]
    revert this
    generalize (execOp a.eval o).run P w = r
    intro h
    cases r with
    | ok x w' =>
     cases x <;> simp only [solidRes,Oper.uponIn] at h ⊢
     case value u=>obtain ⟨i,rfl,hs⟩:=h; exact AX.soundIn m _ _ _ (h6 i ⟨_,hs⟩) _ _ (k.putF hd _) hs
     case skip=>obtain ⟨i,hu,hs⟩:=h; rw [← hu]; exact AX.soundIn m _ _ _ (h6 i ⟨_,hs⟩) _ _ (k.putF hd _) hs
     case enter f args=>exact ⟨fun h=>(by cases h),callsWF (h.mono fun e w'' ⟨i,he,hs⟩=>by subst he; exact AX.soundIn m _ _ _ (h6 i ⟨_,hs⟩) _ _ (k.putF hd _) hs)⟩
    | halt x w'=>exact h.elim
theorem TR.drawn {id:Nat} {fr:Fr} {S:As} (Cw:As) (plan:List (Nat × Kd)) (hm:P.follows .mixedOrders = true) (hcl:ClE S) (hp:(planOk ops (Array.replicate ops.size false) plan && noSel ops && plan.length == ops.size && (plan.all fun (i,k)=>plan.lookup i == some k)) = true)
  (h:RD P n ops (lift ds Q) plan Cw plan fr S):TR ro P n (.region id ops true) ds fr S Q:=by
 simp only [Bool.and_eq_true,beq_iff_eq,List.all_eq_true] at hp
 obtain ⟨⟨⟨h1,h2⟩,h3⟩,h4⟩:=hp
 intro a w k s
 refine wpIn_region_any hm ?_
 have hx:=h _ Closed.start h1 h2 (fun i kk hi=>by have:=h4 _ hi; simpa using this) (fun j hl hj=>?_) ⟨_,hcl _ _ s (Ext.drawn w 0)⟩
 ·rw [h3] at hx
  exact hx.soundIn _ _ _ _ a _ k (hcl _ _ s (Ext.drawn w _))
 ·have:∀ (l:List (Nat × Kd)),l.lookup j = some .br→(j,Kd.br) ∈ l:=by
   intro l
   induction l with
   | nil=>intro h; cases h
   | cons x l ih =>
    obtain ⟨y,ky⟩:=x
    intro h
    rw [List.lookup_cons] at h
    split at h
    ·rename_i e; cases h; simp at e; simp [e]
    ·exact List.mem_cons_of_mem _ (ih h)
  exact this _ hj
end
def recCh (l:Nat) (r:Loop):Ch:=fun p=>p l = some (.loop r)
def defCh (d:Nat) (o:Option (List Deferred)):Ch:=fun p=>p d = some (.deferred o)
section
variable {w0 w:World} {G:List Ch}
theorem Sat.newObj {C:Ch} {o:Obj} (s:Sat w0 G w) (hC:∀ p:Hp,p w.heap.size = some o→C p):Sat w0 (G ++ [C]) (w.alloc o) :=
 s.new (Ext.alloc w _) _ (fun b=>if b = w.heap.size then some o else none) (hC _ (by simp)) (fun b o' hb=>by
  dsimp only at hb
  split at hb
  ·rename_i hb'; subst hb'; cases hb
   exact (heap_alloc w _).1
  ·cases hb) (fun b o' hb=>by
  split at hb
  ·omega
  ·cases hb)
theorem Sat.setObj {k b:Nat} {C C':Ch} {o':Obj} (s:Sat w0 G w) (hk:G[k]? = some C) (hC:∀ p,C p→∃ o,p b = some o) (hC':∀ p:Hp,p b = some o'→C' p):Sat w0 (G.set k C') (w.putObj b o'):=by
 refine s.turn k hk _ rfl rfl rfl (by simp [World.putObj]) fun p hp hl hb=>?_
 obtain ⟨o0,e0⟩:=hC p hp
 have hbw:=hl _ _ e0
 obtain ⟨g1,g2⟩:=heap_set (o':=o') (show w.heap[b]? = some _ from hbw)
 refine ⟨fun c hc hn=>g2 c (fun e'=>by rw [e',e0] at hn; cases hn),fun c=>if c = b then some o' else p c,hC' _ (by simp),fun c o hc=>?_⟩
 dsimp only at hc
 split at hc
 ·rename_i hcb; subst hcb; cases hc
  exact ⟨.inl (by rw [e0]; simp),g1⟩
 ·rename_i hcb
  exact ⟨.inl (by rw [hc]; simp),by show (w.heap.setIfInBounds b o')[c]? = _; rw [g2 c hcb]; exact hl _ _ hc⟩
theorem Sat.atRec {k l:Nat} {r:Loop} (s:Sat w0 G w) (hk:G[k]? = some (recCh l r)):w.heap[l]? = some (.loop r):=by
 obtain ⟨p,hp,hl,_⟩:=s.get k hk
 exact hl _ _ hp
theorem Sat.atDef {k d:Nat} {o:Option (List Deferred)} (s:Sat w0 G w) (hk:G[k]? = some (defCh d o)):w.heap[d]? = some (.deferred o):=by
 obtain ⟨p,hp,hl,_⟩:=s.get k hk
 exact hl _ _ hp
theorem Sat.putRec {k l:Nat} {r r':Loop} (s:Sat w0 G w) (hk:G[k]? = some (recCh l r)):Sat w0 (G.set k (recCh l r')) (w.putObj l (.loop r')) :=
 s.setObj hk (fun p h=>⟨_,h⟩) (fun p h=>h)
theorem Sat.putDef {k d:Nat} {o o':Option (List Deferred)} (s:Sat w0 G w) (hk:G[k]? = some (defCh d o)):Sat w0 (G.set k (defCh d o')) (w.putObj d (.deferred o')) :=
 s.setObj hk (fun p h=>⟨_,h⟩) (fun p h=>h)
end
theorem TR.enter {P:Program} {f:FuncId} {fn:Func} {c:Code} {args:List Value} {w:World} {R:Ending→World→Prop} {S:As} (hf:P.funcs[f]? = some fn) (hb:fn.body = some c) (hn:Nat.ble args.length fn.ntmps = true) (s:S w)
  (h:TR none P fn.ntmps c [] (frameOf 0 args) S (bodyPostM (WF none) 0 P fn R)):Calls P f args.toArray w R:=by
 refine (callsIn_wide (n:=0)).1 (callsIn_of_wp_marks hf hb trivial (h _ w ⟨⟨?_,rfl,fun i v hi=>?_⟩,rfl⟩ s) rfl)
 ·have:args.length ≤ fn.ntmps:=by simpa using hn
  simp [noDef]; omega
 ·obtain ⟨_,h2⟩:=look_frameOf args 0 i v hi
  simp only [Nat.sub_zero] at h2
  have hlt:=(List.getElem?_eq_some_iff.1 h2).1
  show (args.toArray ++ _)[i]? = _
  rw [Array.getElem?_append_left (by simpa using hlt)]
  simpa using h2
def coll (d:Nat):Deferred:={ target:=.collected d,args:=#[] }
section
variable {P:Program} {N:Nat} {ds:List Deferred} {fr:Fr} {w0:World} {G:List Ch} {fn:Func} {R:Ending→World→Prop}
theorem CR.end0 (k:Nat) {d:Nat} (hk:G[k]? = some (defCh d (some []))) (hr:fn.results = #[]) (h:∀ w,Sat w0 (G.set k (defCh d none)) w→R (.returned (.tuple #[])) w):CR N (bodyPostM (WF none) 0 P fn R .normal) [coll d] fr (Sat w0 G):=fun a w kd s=>by
 show LeavesInM _ _ _ _ _ _ a.defers _ _
 rw [kd.d]
 exact ⟨by simp,.inl ⟨d,_,rfl,run_takeDeferred (s.atDef hk),⟨_,results_none hr _ _ _,h _ (s.putDef hk)⟩⟩⟩
theorem CR.endN (hr:fn.results = #[]) (h:∀ w,Sat w0 G w→R (.returned (.tuple #[])) w):CR N (bodyPostM (WF none) 0 P fn R .normal) [] fr (Sat w0 G):=fun a w kd s=>by
 show LeavesInM _ _ _ _ _ _ a.defers _ _
 rw [kd.d]
 exact ⟨_,results_none hr _ _ _,h _ s⟩
theorem CR.retN (hr:fn.results = #[]) (h:∀ w,Sat w0 G w→R (.returned (.tuple #[])) w):CR N (bodyPostM (WF none) 0 P fn R .ret) [] fr (Sat w0 G):=fun a w kd s=>by
 show LeavesInM _ _ _ _ _ _ a.defers _ _
 rw [kd.d]
 exact ⟨_,results_none hr _ _ _,h _ s⟩
theorem TR.range2 {g:Operand} {p q:Tmp} {assign body:Code} {Q:Po} {gf:Nat} {lb:Array Value} (hg:ev fr g = some (.func (.func gf) #[] lb)) (eg:∀ args w,(callFunc gf args).run P w = .ok (.enter gf args) w)
  (hp:Nat.blt p N = true) (hq:Nat.blt q N = true) (v1 v2:Nat→Value) (m:Nat) (GG:Nat→List Ch) (h0:GG 0 = G) (frB:Nat→Fr)
  (hit:∀ (l:Nat) (E:List Ch) (w:World),Sat w0 (GG 0 ++ E) w →
   (∀ k w1,k < m→Sat w0 (GG k ++ E) w1→∃ fn tmps assign body,(Instr.yield l #[v1 k,v2 k]).run P w1 = .ok (.round l fn tmps assign body) w1∧RoundIn (WF none) 0 P l fn tmps assign body w1 fun e w'=>e = .returned (.bool true)∧Sat w0 (GG (k + 1) ++ E) w') →
   CallsIn (WF none) 0 P gf (#[.func (.yield l) #[] #[]] ++ lb) w fun e w'=>(∃ v,e = .returned v)∧Sat w0 (GG m ++ E) w')
  (hassign:∀ l k E K,k < m→CR N K [] (frB k) (Sat w0 (GG k ++ E))→TR (some l) P N assign [] ((q,v2 k) :: (p,v1 k) :: fr) (Sat w0 (GG k ++ E)) (Exit.then K fun _ _ _=>False))
  (hbody:∀ l k E K,k < m→(∀ fr',CR N K [] fr' (Sat w0 (GG (k + 1) ++ E)))→TR (some l) P N body [] (frB k) (Sat w0 (GG k ++ E)) (Exit.then K fun _ _ _=>False))
  (hdone:∀ D,CR N (Q .normal) (coll D :: ds) fr (Sat w0 (GG m ++ [defCh D (some [])]))):TR none P N (.rangeFunc g #[p,q] assign body) ds fr (Sat w0 G) Q:=by
 subst h0
 intro a w kd s
 refine wpIn_rangeFunc ?_
 intro fn hfn
 obtain ⟨rec,hrec⟩:∃ rec:LoopState→Option Code→Loop,rec = fun st pe=>{ state:=st,pending:=pe,fn,tmps:=a.tmps,params:=#[p,q],assign,body,defers:=w.heap.size }:=⟨_,rfl⟩
 have s1:=(s.newObj (C:=defCh w.heap.size (some [])) (o:=.deferred (some [])) fun _ h=>h).newObj (C:=recCh (w.heap.size + 1) (rec .ready none)) (o:=.loop (rec .ready none)) fun _ h=>by rw [World.size_alloc] at h; exact h
 have ge:a.eval g = .func (.func gf) #[] lb:=by rw [← eval_noDef]; exact kd.k.ev hg
 refine ⟨w.heap.size + 1,[coll w.heap.size],(w.alloc (.deferred (some []))).alloc (.loop (rec .ready none)),{ target:=.fn (.func gf) lb,args:=#[.func (.yield (w.heap.size + 1)) #[] #[]] },(w.alloc (.deferred (some []))).alloc (.loop (rec .ready none)),gf,
  #[.func (.yield (w.heap.size + 1)) #[] #[]] ++ lb,(w.alloc (.deferred (some []))).alloc (.loop (rec .ready none)),?_,?_,fun _ _=>trivial,?_,fun h=>(by cases h),?_⟩
 ·rw [hrec]; exact run_enterLoop_outer _ _ _ _ _
 ·simp only [resolve,ge]
  simp [go_sem]
 ·simp [invoke,go_sem,eg]
 ·rw [List.append_assoc] at s1
  have hkR:∀ k r,(GG k ++ ([defCh w.heap.size (some [])] ++ [recCh (w.heap.size + 1) r]))[(GG k).length + 1]? = some (recCh (w.heap.size + 1) r):=fun k r=>by simp
  have hkS:∀ k r r',(GG k ++ ([defCh w.heap.size (some [])] ++ [recCh (w.heap.size + 1) r])).set ((GG k).length + 1) (recCh (w.heap.size + 1) r') = GG k ++ ([defCh w.heap.size (some [])] ++ [recCh (w.heap.size + 1) r']):=fun k r r'=>by simp
  refine (hit (w.heap.size + 1) ([defCh w.heap.size (some [])] ++ [recCh (w.heap.size + 1) (rec .ready none)]) _ s1 ?_).mono ?_
  ·intro k w1 hkm s2
   have hl:=s2.atRec (hkR k _)
   have hy:=run_yield (P:=P) (args:=#[v1 k,v2 k]) hl (by rw [hrec]; rfl)
   rw [hrec] at hy
   refine ⟨fn,_,assign,body,hy,roundIn_of_wpIn trivial (hassign _ k _ _ hkm ?_ _ w1 ?_ s2)⟩
   ·intro a2 w2 kd2 s3
    have hl2:=s3.atRec (hkR k _)
    refine ⟨_,run_beginRound hl2 (by rw [hrec]),?_⟩
    have s4:=s3.putRec (r':={ rec .ready none with state:=.busy }) (hkR k _)
    rw [hkS] at s4
    refine wpIn_mono (hbody (w.heap.size + 1) k _ (fun _ w'=>Sat w0 (GG (k + 1) ++ ([defCh w.heap.size (some [])] ++ [recCh (w.heap.size + 1) { rec .ready none with state:=.busy }])) w') hkm (fun _ _ _ _ s=>s) a2 _ kd2 s4) ?_
    intro e a3 w3 hq3
    cases e with
    | normal =>
     have s5:Sat w0 (GG (k + 1) ++ ([defCh w.heap.size (some [])] ++ [recCh (w.heap.size + 1) { rec .ready none with state:=.busy }])) w3:=hq3
     have s6:=s5.putRec (r':=rec .ready none) (hkR (k + 1) _)
     rw [hkS] at s6
     have he:=run_endRound (P:=P) none (s5.atRec (hkR (k + 1) _))
     rw [hrec] at he s6
     exact ⟨_,_,he,rfl,by rw [hrec]; exact s6⟩
    | ret=>exact hq3.elim
    | exit id=>exact hq3.elim
    | goto t=>exact hq3.elim
    | panic ch=>exact hq3.elim
    | outgrown=>exact hq3.elim
   ·have k1:=(kd.k.putF (d:=some p) hp (v1 k)).putF (d:=some q) hq (v2 k)
    refine ⟨?_,rfl⟩
    have hn:((noDef a).put (some p) (v1 k)).put (some q) (v2 k) = noDef { tmps:=(#[p,q].zip #[v1 k,v2 k]).foldl (fun t (x:Tmp × Value)=>t.setIfInBounds x.1 x.2) a.tmps,defers:=[] }:=by
     simp [noDef,Act.put]
    rw [hn] at k1
    exact k1
  ·rintro e w2 ⟨⟨v,rfl⟩,s2⟩
   have hl:=s2.atRec (hkR m _)
   have s3:=s2.putRec (r':={ rec .ready none with state:=.exhausted }) (hkR m _)
   rw [hkS] at s3
   have he:=run_endLoop (P:=P) hl (by rw [hrec]; simp)
   rw [hrec] at he s3
   refine ⟨none,_,he,hdone w.heap.size _ _ ⟨?_,?_⟩ ?_⟩
   ·exact kd.k
   ·show coll w.heap.size :: a.defers = _
    rw [kd.d]
   ·refine s3.pick (List.range ((GG m).length + 1)) List.nodup_range ?_
    apply List.ext_getElem?
    intro j
    rw [← List.append_assoc]
    by_cases hj:j < (GG m).length + 1
    ·simp only [List.getElem?_map,List.getElem?_range hj,Option.map_some]
     rw [List.getElem?_append_left (by simpa using hj)]
     cases he':(GG m ++ [defCh w.heap.size (some [])])[j]? with
     | some C=>rfl
     | none=>rw [List.getElem?_eq_none_iff] at he'; simp at he'; omega
    ·rw [List.getElem?_eq_none (by simpa using hj),List.getElem?_eq_none (by simpa using hj)]
end
end Go.Vg
namespace Go.Vg
section
variable {ro:Option Nat} {P:Program} {N:Nat} {ops:Array Oper} {Q:Po} {rest:List Oper} {ds:List Deferred} {fr:Fr} {S:As} {K:Act→World→Prop}
theorem TR.know {c:Code} {p:Prop} (hp:∀ w,S w→p) (h:p→TR ro P N c ds fr S Q):TR ro P N c ds fr S Q:=fun a w k s=>h (hp w s) a w k s
theorem TR.exitTo {id:Nat} (he:ExTo id Q K) (h:CR N K ds fr S):TR ro P N (.exit id) ds fr S Q:=TR.exit fun a w k s=>he a w (h a w k s)
end
end Go.Vg
set_option linter.unusedVariables false
set_option linter.unusedSimpArgs false
set_option maxRecDepth 20000
namespace Go.Proofs.YtmngdgclldkcfaaGreat
open Go.Vg
open Enc (R)
structure Fld where
  c:Cach
  made:Int
  has:Bool
  g:Grd
  l:List Bld
  nets:List (Int × Net)
  ways:List (Int × List Int)
  count:Int
  deriving Inhabited
section
variable {α β:Type}
def mapV (f:α→β) (L:List (Int × α)):List (Int × β):=L.map fun e=>(e.1,f e.2)
theorem kget_mapV (f:α→β) (L:List (Int × α)) (k:Int):kget (mapV f L) k = (kget L k).map f:=by
 induction L with
 | nil=>rfl
 | cons a L ih =>
  obtain ⟨a,b⟩:=a
  show (if a = k then some (f b) else kget (mapV f L) k) = _
  by_cases h:a = k
  ·rw [if_pos h]; simp [kget,h]
  ·rw [if_neg h,ih]; simp [kget,h]
theorem kput_mapV (f:α→β) (L:List (Int × α)) (k:Int) (v:α):kput (mapV f L) k (f v) = mapV f (kput L k v):=by
 induction L with
 | nil=>rfl
 | cons a L ih =>
  obtain ⟨a,b⟩:=a
  show (if a = k then (k,f v) :: mapV f L else (a,f b) :: kput (mapV f L) k (f v)) = _
  by_cases h:a = k
  ·rw [if_pos h]; simp [kput,h,mapV]
  ·rw [if_neg h,ih]; simp [kput,h,mapV]
theorem kget_mem {L:List (Int × α)} {k:Int} {v:α} (h:kget L k = some v):(k,v) ∈ L:=by
 induction L with
 | nil=>cases h
 | cons a L ih =>
  obtain ⟨a,b⟩:=a
  by_cases e:a = k
  ·simp [kget,e] at h; subst h; subst e; exact List.mem_cons_self ..
  ·simp [kget,e] at h; exact List.mem_cons_of_mem _ (ih h)
theorem mem_kput {L:List (Int × α)} {k:Int} {v:α} {e:Int × α} (h:e ∈ kput L k v):e = (k,v) ∨ (e ∈ L∧(kget L k = none→e.1 ≠ k)):=by
 induction L with
 | nil=>simp [kput] at h; exact .inl h
 | cons a L ih =>
  obtain ⟨a,b⟩:=a
  by_cases e':a = k
  ·simp [kput,e'] at h
   rcases h with h | h
   ·exact .inl h
   ·exact .inr ⟨List.mem_cons_of_mem _ h,fun hn=>by simp [kget,e'] at hn⟩
  ·simp [kput,e'] at h
   rcases h with h | h
   ·subst h; exact .inr ⟨List.mem_cons_self ..,fun _=>e'⟩
   ·rcases ih h with h | ⟨h,hk⟩
    ·exact .inl h
    ·exact .inr ⟨List.mem_cons_of_mem _ h,fun hn=>hk (by simpa [kget,e'] using hn)⟩
end
def NetB (H:Hp) (n:Nat) (x:Net):Prop:=∃ v0 v1,blk n [.int .i64 x.g.w,.int .i64 x.g.h,v0,.int .i64 x.cls,v1] 233 H∧R H x.g.tiles [v0]∧R H x.free [v1]
def NetAt (H:Hp) (z:Nat × Net):Prop:=∃ s n,blk z.1 [.int .u32 1,.int .i32 0,s,.pointer (some ⟨n,0,none⟩)] 179 H∧NetB H n z.2
def WayAt (H:Hp) (z:Nat × List Int):Prop:=∃ s v,blk z.1 [.int .u32 1,.int .i32 0,s,v] 425 H∧R H z.2 [v]
theorem NetB.mono {H K:Hp} (h:H.le K) {n:Nat} {x:Net}:NetB H n x→NetB K n x:=fun ⟨v0,v1,a,b,c⟩=>⟨v0,v1,h _ _ a,Enc.mono h b,Enc.mono h c⟩
theorem NetAt.mono {H K:Hp} (h:H.le K) {z:Nat × Net}:NetAt H z→NetAt K z:=fun ⟨s,n,a,b⟩=>⟨s,n,h _ _ a,b.mono h⟩
theorem WayAt.mono {H K:Hp} (h:H.le K) {z:Nat × List Int}:WayAt H z→WayAt K z:=fun ⟨s,v,a,b⟩=>⟨s,v,h _ _ a,Enc.mono h b⟩
def pt (b:Nat):Value:=.pointer (some ⟨b,0,none⟩)
def raw {α:Type} (L:List (Int × (Nat × α))):List (Int × Value):=mapV (fun z=>pt z.1) L
def abs {α:Type} (L:List (Int × (Nat × α))):List (Int × α):=mapV (fun z=>z.2) L
structure FldIn (x:Fld) where
  gc:Nat
  gn:Nat
  gw:Nat
  tv:Value
  lv:Value
  hA:Hp
  N:List (Int × (Nat × Net))
  W:List (Int × (Nat × List Int))
  hN:x.nets = abs N
  hW:x.ways = abs W
  aN:∀ e ∈ N,NetAt hA e.2
  aW:∀ e ∈ W,WayAt hA e.2
  rt:R hA x.g.tiles [tv]
  rl:R hA x.l [lv]
def Fld_ch (g:Nat) (x:Fld):Ch:=exch fun q:FldIn x=>stars (blk g [.pointer (some ⟨q.gc,0,none⟩),.int .i64 x.made,.bool x.has,.int .i64 x.g.w,.int .i64 x.g.h,q.tv,q.lv,.map (some q.gn),.map (some q.gw),.int .i64 x.count] 147 :: [Cach_ch q.gc x.c,mapL q.gn (raw q.N),mapL q.gw (raw q.W),fz q.hA])
theorem Fld_open {w0 w:World} {G:List Ch} {g:Nat} {x:Fld} (k:Nat) (hk:G[k]? = some (Fld_ch g x)) (h:Sat w0 G w):∃ q:FldIn x,Sat w0 (G.set k (blk g [.pointer (some ⟨q.gc,0,none⟩),.int .i64 x.made,.bool x.has,.int .i64 x.g.w,.int .i64 x.g.h,q.tv,q.lv,.map (some q.gn),.map (some q.gw),.int .i64 x.count] 147) ++ [Cach_ch q.gc x.c,mapL q.gn (raw q.N),mapL q.gw (raw q.W),fz q.hA]) w :=
 Sat.openAt (A:=fun q:FldIn x=>blk g [.pointer (some ⟨q.gc,0,none⟩),.int .i64 x.made,.bool x.has,.int .i64 x.g.w,.int .i64 x.g.h,q.tv,q.lv,.map (some q.gn),.map (some q.gw),.int .i64 x.count] 147) (L:=fun q:FldIn x=>[Cach_ch q.gc x.c,mapL q.gn (raw q.N),mapL q.gw (raw q.W),fz q.hA]) k hk h
theorem Fld_shut {w0 w:World} {G:List Ch} {g:Nat} {x:Fld} (q:FldIn x) (h:Sat w0 (G ++ [blk g [.pointer (some ⟨q.gc,0,none⟩),.int .i64 x.made,.bool x.has,.int .i64 x.g.w,.int .i64 x.g.h,q.tv,q.lv,.map (some q.gn),.map (some q.gw),.int .i64 x.count] 147,Cach_ch q.gc x.c,mapL q.gn (raw q.N),mapL q.gw (raw q.W),fz q.hA]) w):Sat w0 (Fld_ch g x :: G) w :=
 Sat.toEx (C:=fun q:FldIn x=>stars (blk g [.pointer (some ⟨q.gc,0,none⟩),.int .i64 x.made,.bool x.has,.int .i64 x.g.w,.int .i64 x.g.h,q.tv,q.lv,.map (some q.gn),.map (some q.gw),.int .i64 x.count] 147 :: [Cach_ch q.gc x.c,mapL q.gn (raw q.N),mapL q.gw (raw q.W),fz q.hA])) q (Sat.toStars (blk g [.pointer (some ⟨q.gc,0,none⟩),.int .i64 x.made,.bool x.has,.int .i64 x.g.w,.int .i64 x.g.h,q.tv,q.lv,.map (some q.gn),.map (some q.gw),.int .i64 x.count] 147 :: [Cach_ch q.gc x.c,mapL q.gn (raw q.N),mapL q.gw (raw q.W),fz q.hA]) (G:=G) h)
def fields_same (a0_f:Fld) (a1_g:Grd) (a2_l:List Bld):Option Bool :=
  Option.bind (if ((a0_f.has = true)∧(a0_f.g.w = a1_g.w))∧(a0_f.g.h = a1_g.h) then
  Option.bind (slices_EqualBld a0_f.l a2_l) fun x15 =>
  some x15
  else
  some false) fun b8 =>
  Option.bind (if b8 = true then
  Option.bind (slices_EqualBytes a0_f.g.tiles a1_g.tiles) fun x13 =>
  some x13
  else
  some false) fun b11 =>
  some b11
def fields_New (room:Int):Option (Option Fld × Int):=Option.bind (cache_New room) fun y=>match y with
  | (some c,_)=>Option.bind (cache_Cache_Clear c) fun c=>some (some ⟨c,0,false,⟨0,0,[]⟩,[],[],[],0⟩,0)
  | (none,e)=>some (none,e)
def fields_on (x:Fld) (g:Grd) (l:List Bld):Option Fld:=Option.bind (fields_same x g l) fun b =>
  if b = true then some x else
  Option.bind (cache_Cache_Clear x.c) fun c=>Option.bind (ground_Own g) fun g'=>Option.bind (slices_Clone_Bld l) fun l'=>some ⟨c,x.made,true,g',l',[],[],x.count⟩
def fields_Net (x:Fld) (g:Grd) (l:List Bld) (cls size:Int):Option (Net × Fld):=Option.bind (fields_on x g l) fun x =>
  if I64 (4 * cls) then if I64 (4 * cls + size) then
  match kget x.nets (4 * cls + size) with
  | some n=>some (n,x)
  | none=>Option.bind (field_Open x.g x.l cls size) fun n=>some (n,⟨x.c,x.made,x.has,x.g,x.l,kput x.nets (4 * cls + size) n,x.ways,x.count⟩)
  else none else none
def sweepL {α:Type} (L:List (Int × α)):List Int→Cach→List (Int × α)→Option (Cach × List (Int × α))
  | [],c,K=>some (c,K)
  | key :: r,c,K=>Option.bind (cache_Cache_Get c key) fun y =>
    if y.2.1 = true then Option.bind (kget L y.1) fun v=>sweepL L r y.2.2 (kput K y.1 v) else sweepL L r y.2.2 K
def sweepF {α:Type} (c:Cach) (L:List (Int × α)):Option (Cach × List (Int × α)) :=
  if (c.keys.length:Int) < 1099511627776 then if (L.length:Int) ≤ 2 * (c.keys.length:Int) then some (c,L) else sweepL L c.keys.reverse c [] else none
def fields_Ways (x:Fld) (g:Grd) (l:List Bld) (cls size goal:Int):Option (List Int × Fld):=Option.bind (fields_Net x g l cls size) fun y =>
  if I64 ((4 * cls + size) * 128) then if I64 ((4 * cls + size) * 128 * 128) then if I64 ((4 * cls + size) * 128 * 128 + goal) then
  Option.bind (cache_Cache_Get y.2.c ((4 * cls + size) * 128 * 128 + goal)) fun z =>
  if z.2.1 = true then Option.bind (kget y.2.ways z.1) fun d=>some (d,⟨z.2.2,y.2.made,y.2.has,y.2.g,y.2.l,y.2.nets,y.2.ways,y.2.count⟩)
  else if I64 (y.2.count + 1) then if I64 (y.2.made + 1) then
  Option.bind (cache_Cache_Put z.2.2 ((4 * cls + size) * 128 * 128 + goal) (y.2.count + 1)) fun c =>
  Option.bind (field_Net_Toward y.1 goal) fun d =>
  if kget y.2.ways (y.2.count + 1) = none then
  Option.bind (sweepF c (kput y.2.ways (y.2.count + 1) d)) fun s =>
  if (kget s.2 (y.2.count + 1)).isSome = true then some (d,⟨s.1,y.2.made + 1,y.2.has,y.2.g,y.2.l,y.2.nets,s.2,y.2.count + 1⟩) else none
  else none else none else none
  else none else none else none
theorem sweepL_map {α β:Type} (f:α→β) {L:List (Int × α)}:∀ {r:List Int} {c:Cach} {K:List (Int × α)},sweepL (mapV f L) r c (mapV f K) = (sweepL L r c K).map fun z=>(z.1,mapV f z.2)
 | [],c,K=>rfl
 | key :: r,c,K=>by
  simp only [sweepL]
  cases cache_Cache_Get c key with
  | none=>rfl
  | some y =>
   simp only [Option.bind_some]
   by_cases h:y.2.1 = true
   ·rw [if_pos h,if_pos h,kget_mapV]
    cases kget L y.1 with
    | none=>rfl
    | some v=>simp only [Option.map_some,Option.bind_some]; rw [kput_mapV]; exact sweepL_map f
   ·rw [if_neg h,if_neg h]; exact sweepL_map f
theorem sweepL_mem {α:Type} {L:List (Int × α)}:∀ {r:List Int} {c:Cach} {K:List (Int × α)} {z:Cach × List (Int × α)},sweepL L r c K = some z→(∀ e ∈ K,e ∈ L)→∀ e ∈ z.2,e ∈ L
 | [],c,K,z,h,hK=>by cases h; exact hK
 | key :: r,c,K,z,h,hK=>by
  simp only [sweepL] at h
  obtain ⟨y,_,h⟩:=bindE h
  by_cases hy:y.2.1 = true
  ·rw [if_pos hy] at h
   obtain ⟨v,hv,h⟩:=bindE h
   refine sweepL_mem h fun e he=>?_
   rcases mem_kput he with rfl | ⟨h1,_⟩
   ·exact kget_mem hv
   ·exact hK _ h1
  ·rw [if_neg hy] at h; exact sweepL_mem h hK
theorem sweepF_map {α β:Type} (f:α→β) {c:Cach} {L:List (Int × α)}:sweepF c (mapV f L) = (sweepF c L).map fun z=>(z.1,mapV f z.2):=by
 unfold sweepF
 have:(mapV f L).length = L.length:=by simp [mapV]
 rw [this]
 split
 ·split
  ·rfl
  ·exact sweepL_map f (K:=[])
 ·rfl
theorem sweepF_mem {α:Type} {c:Cach} {L:List (Int × α)} {z:Cach × List (Int × α)} (h:sweepF c L = some z):∀ e ∈ z.2,e ∈ L:=by
 unfold sweepF at h
 split at h
 ·split at h
  ·cases h; exact fun e h=>h
  ·exact sweepL_mem h (fun e h=>by cases h)
 ·cases h
end Go.Proofs.YtmngdgclldkcfaaGreat
set_option linter.unusedVariables false
set_option linter.unusedSimpArgs false
set_option maxRecDepth 20000
set_option maxHeartbeats 4000000
namespace Go.Proofs.YtmngdgclldkcfaaGreat
open Go.Vg
open Enc (R)
theorem ent110:Ent Tryz.prog 110:=en Tryz.func110
theorem ent133:Ent Tryz.prog 133:=en Tryz.func133
theorem ent200:Ent Tryz.prog 200:=en Tryz.func200
theorem ent201:Ent Tryz.prog 201:=en Tryz.func201
theorem ent67:Ent Tryz.prog 67:=en Tryz.func67
theorem ent68:Ent Tryz.prog 68:=en Tryz.func68
instance fd147_0:FdC Tryz.prog 147 0 0:={}
instance fd147_2:FdC Tryz.prog 147 2 2:={}
instance fd147_3:FdC Tryz.prog 147 3 3:={}
instance fd147_4:FdC Tryz.prog 147 4 6:={}
instance fd147_5:FdC Tryz.prog 147 5 7:={}
instance fd147_6:FdC Tryz.prog 147 6 8:={}
theorem st147:stTy Tryz.prog 147 = some ([.pointer none,.int .i64 0,.bool false,.int .i64 0,.int .i64 0,.slice none 0 0,.slice none 0 0,.map none,.map none,.int .i64 0],[(0,1),(1,1),(2,1),(3,3),(6,1),(7,1),(8,1),(9,1)]):=by kernel_rfl
instance ty136:TyC Tryz.prog 136 (1,false):={}
instance ty144:TyC Tryz.prog 144 (1,false):={}
instance ty145:TyC Tryz.prog 145 (1,false):={}
theorem callFr {w0:World} {P:Program} {f:FuncId} {vs:Array Value} {A B:List Ch} {ι:Type} {val:ι→Value} {A':ι→List Ch} (hc:∀ w,Sat w0 (A ++ [stars B]) w→Calls P f vs w fun e w'=>∃ i,e = .returned (val i)∧Sat w0 (A' i ++ [stars B]) w') {w:World} (s:Sat w0 (A ++ B) w) :
  Calls P f vs w fun e w'=>∃ i,e = .returned (val i)∧Sat w0 (A' i ++ B) w' :=
 (hc w (Sat.toStars B (G:=A) s).rot).mono fun e w' ⟨i,h1,h2⟩=>⟨i,h1,Sat.unstars B h2.rotB⟩
theorem fields_same_walk (a0_f:Fld) (a1_g:Grd) (a2_l:List Bld) (w:World) {z0 z1 z2:Value} {v0 v1 v2 v3:Value} {p0g:Nat} (hb0:blk p0g [z0,.int .i64 a0_f.made,.bool a0_f.has,.int .i64 a0_f.g.w,.int .i64 a0_f.g.h,v0,v1,z1,z2,.int .i64 a0_f.count] 147 (hpOf w)) (h0:R (hpOf w) a0_f.g.tiles [v0]) (h1:R (hpOf w) a0_f.l [v1]) (h2:R (hpOf w) a1_g.tiles [v2]) (h3:R (hpOf w) a2_l [v3]) {r:Bool} (H:fields_same a0_f a1_g a2_l = some r):Calls Tryz.prog 133 #[.pointer (some ⟨p0g,0,none⟩),.agg #[.int .i64 a1_g.w,.int .i64 a1_g.h,v2],v3] w fun e w'=>e = .returned (.bool r)∧Ext w w':=by
 have hm0:=R_max h0
 obtain ⟨p0,c0,rfl⟩:=R_form h0
 have hm1:=R_max h1
 obtain ⟨p1,c1,rfl⟩:=R_form h1
 have hm2:=R_max h2
 obtain ⟨p2,c2,rfl⟩:=R_form h2
 have hm3:=R_max h3
 obtain ⟨p3,c3,rfl⟩:=R_form h3
 unfold fields_same at H
 refine te Tryz.func133 (Sat.start w) ?_
 refine T.seq fun _ k1=>T.region (RS.solid (Sd.box (cs:=[_,_,_]) rfl rfl) rfl rfl fun b1=>rA rfl (RS.nil (k1 _ _ ?_)))
 refine T.seq fun _ k2=>dr mixed [0,0,0,1,0,0,0,0,0,1,0,1,0,0,0,0,0,0,0,1,0,1,0,0,0,0,0,0,1,0,1,0,0,0,0,0,0,1,0,1,1,0,0] ?_
 refine au 3 ?_
 refine dq rfl (Qt.ldX ty4.h rfl hb0 (fun w s=>s.ext) rfl) (dp rfl (Pu.move rfl) ?_)
 refine RD.joinV 9 20 (.bool (decide ((a0_f.has = true)∧(a0_f.g.w = a1_g.w)))) [(0,_),(2,_),(4,_),(6,_)] sb ?_ ?_
 ·refine dp rfl (Pu.move rfl) ?_
  refine RD.joinV 9 30 (.bool (decide (((a0_f.has = true)∧(a0_f.g.w = a1_g.w))∧(a0_f.g.h = a1_g.h)))) [(0,_),(2,_),(4,_),(6,_)] sb ?_ ?_
  ·refine dp rfl (Pu.move rfl) ?_
   refine RD.joinB H 7 38 (fun b8=>.bool b8) [(0,_),(4,_),(6,_)] sb ?_ ?_
   ·intro b8 H
    refine dp rfl (Pu.move rfl) ?_
    refine RD.joinB H 9 48 (fun b11=>.bool b11) [(6,_)] sb ?_ ?_
    ·intro b11 H
     refine dp rfl (Pu.assign rfl) (RD.nil (k2 _ _ ?_))
     obtain rfl:=sj H
     refine T.rt (Cont.ret1 rfl rfl fun w' s=>?_)
     exact ⟨rfl,s.ext⟩
    intro z12 H hJ10
    refine RD.split 39 rfl (fun hc9=>?_) (fun hc9=>?_)
    ·have H:=ifT hc9 H
     refine au 4 ?_
     refine dq rfl (Qt.ldX ty22.h rfl hb0 (fun w s=>s.ext) rfl) (au 2 ?_)
     obtain ⟨x13,hx13,H⟩:=bindE H
     refine dq rfl (Qt.call (vs:=[_,_]) ent201 rfl fun w s=>slices_EqualBytes_walk a0_f.g.tiles a1_g.tiles w ((Rd.base h0) w s) ((Rd.base h2) w s) hx13) (dp rfl (Pu.pickT rfl rfl) ?_)
     obtain rfl:=sj H
     exact hJ10 _ sb
    have H:=ifB hc9 H
    refine au 9 ?_
    obtain rfl:=sj H
    exact hJ10 _ sb
   intro z14 H hJ7
   refine RD.splitP 31 rfl (fun hc6=>?_) (fun hc6=>?_)
   ·have H:=ifT hc6 H
    refine au 3 ?_
    refine dq rfl (Qt.ldX ty49.h rfl hb0 (fun w s=>s.ext) rfl) (dp rfl (Pu.move rfl) ?_)
    obtain ⟨x15,hx15,H⟩:=bindE H
    refine dq rfl (Qt.call (vs:=[_,_]) ent200 rfl fun w s=>slices_EqualBld_walk a0_f.l a2_l w ((Rd.base h1) w s) ((Rd.base h3) w s) hx15) (dp rfl (Pu.pickT rfl rfl) ?_)
    obtain rfl:=sj H
    exact hJ7 _ sb
   have H:=ifF hc6 H
   refine au 7 ?_
   obtain rfl:=sj H
   exact hJ7 _ sb
  intro hJ5
  refine RD.splitP 21 rfl (fun hc4=>?_) (fun hc4=>?_)
  ·refine au 4 ?_
   refine dq rfl (Qt.ldX ty3.h rfl hb0 (fun w s=>s.ext) rfl) (au 4 ?_)
   exact hJ5 _ ⟨dAndT hc4,rfl,rfl,rfl,rfl,trivial⟩
  refine au 9 ?_
  exact hJ5 _ ⟨dAndF hc4,rfl,rfl,rfl,rfl,trivial⟩
 intro hJ3
 refine RD.split 11 rfl (fun hc2=>?_) (fun hc2=>?_)
 ·refine au 4 ?_
  refine dq rfl (Qt.ldX ty3.h rfl hb0 (fun w s=>s.ext) rfl) (au 4 ?_)
  exact hJ3 _ ⟨dAndT hc2,rfl,rfl,rfl,rfl,trivial⟩
 refine au 9 ?_
 exact hJ3 _ ⟨dAndF (bne_of hc2),rfl,rfl,rfl,rfl,trivial⟩
theorem fields_Forget_walk {w0:World} {F:Ch} (gF gc:Nat) (c:Cach) {c':Cach} (H:cache_Cache_Clear c = some c') {m h W Hh tv lv mv nv k:Value} (w:World) (s:Sat w0 [blk gF [.pointer (some ⟨gc,0,none⟩),m,h,W,Hh,tv,lv,mv,nv,k] 147,Cach_ch gc c,F] w):Calls Tryz.prog 68 #[.pointer (some ⟨gF,0,none⟩)] w fun e w'=>∃ q:Nat × Nat,e = .returned (.tuple #[])∧Sat w0 ([blk gF [.pointer (some ⟨gc,0,none⟩),m,.bool false,W,Hh,tv,lv,.map (some q.1),.map (some q.2),k] 147,Cach_ch gc c',mapL q.1 [],mapL q.2 []] ++ [F]) w':=by
 refine te Tryz.func68 s ?_
 refine T.seq fun _ k1=>T.region (au 4 ?_)
 refine RS.solid (Sd.callF0 1 ent110 rfl rfl (fun w s=>cache_Cache_Clear_walk gc c H w s)) rfl rfl fun _=>RS.nil (k1 _ _ (kq [0] ?_))
 refine T.region (au 3 ?_)
 refine RS.solid Sd.makeMapL rfl rfl fun gn=>?_
 refine RS.solid Sd.makeMapL rfl rfl fun gw=>?_
 refine au 9 ?_
 refine RS.nil (Cont.end0 rfl fun w' s=>?_)
 exact ⟨(gn,gw),rfl,s.pc [0,1,3,4,2]⟩
theorem fields_New_no (room:Int) (H:cache_New room = some (none,1)) (w:World):Calls Tryz.prog 36 #[.int .i64 room] w fun e w'=>e = .returned (.tuple #[.pointer none,.int .i64 1])∧Ext w w':=by
 refine te Tryz.func36 (Sat.start w) ?_
 refine au 3 ?_
 refine T.seq fun _ k2=>T.region (rM rfl (RS.solid (Sd.callN ent67 rfl (fun w s=>cache_New_walk room w H)) rfl rfl fun gc=>au 5 ?_))
 refine RS.nil (k2 _ _ (kq [4,5] ?_))
 refine T.seq fun _ k3=>au 3 ?_
 refine T.condP rfl (fun hc13=>?_) (fun hc13=>?_)
 ·refine kq [5] ?_
  refine au 4 ?_
  refine T.retTo (by with_reducible ((repeat (first | apply RetTo.seq | apply RetTo.blk)); exact RetTo.refl _)) (Cont.ret2 rfl rfl rfl fun w' s=>?_)
  exact ⟨rfl,s.ext⟩
 exact absurd (by decide) hc13 -- end
theorem fields_New_ok (room:Int) {c c':Cach} (H:cache_New room = some (some c,0)) (H2:cache_Cache_Clear c = some c') (w:World):Calls Tryz.prog 36 #[.int .i64 room] w fun e w'=>∃ g:Nat,e = .returned (.tuple #[.pointer (some ⟨g,0,none⟩),.int .i64 0])∧Sat w [Fld_ch g ⟨c',0,false,⟨0,0,[]⟩,[],[],[],0⟩] w':=by
 refine te Tryz.func36 (Sat.start w) ?_
 refine au 3 ?_
 refine T.seq fun _ k2=>T.region (rM rfl (RS.solid (Sd.callN ent67 rfl (fun w s=>cache_New_walk room w H)) rfl rfl fun gc=>au 5 ?_))
 refine RS.nil (k2 _ _ (kq [4,5] ?_))
 refine T.seq fun _ k3=>au 3 ?_
 refine T.condP rfl (fun hc13=>?_) (fun hc13=>?_)
 ·exact absurd rfl hc13 -- end
 refine T.skip (k3 _ _ (kq [4] ?_))
 refine T.seq fun _ k5=>?_
 refine T.weakS (fun w s=>s.optSome 0 rfl) ?_
 refine T.region (rM rfl (rp (Pu.build (cells:=[_,_,_,_,_,_,_,_,_,_]) st147 rfl rfl) (RS.solid (Sd.box (cs:=[_,_,_,_,_,_,_,_,_,_]) rfl rfl) rfl rfl fun b17=>rA rfl (RS.nil (k5 _ _ (kq [6] ?_))))))
 refine T.seq fun _ k6=>T.region (rM rfl (RS.solid (Sd.call ent68 rfl (fun w s=>callFr (A:=[_,_]) (B:=[]) (fun w s=>fields_Forget_walk b17 gc c H2 w s) (s.pc [1,0]))) rfl rfl fun q=>RS.nil (k6 _ _ ?_)))
 refine T.seq fun _ k7=>T.region (au 3 ?_)
 refine RS.nil (k7 _ _ (kq [2,3] ?_))
 refine T.retTo (by with_reducible ((repeat (first | apply RetTo.seq | apply RetTo.blk)); exact RetTo.refl _)) (Cont.ret2 rfl rfl rfl fun w' s=>?_)
 obtain ⟨hA,_,s⟩:=s.newArena
 exact ⟨b17,rfl,Fld_shut (x:=⟨c',0,false,⟨0,0,[]⟩,[],[],[],0⟩) ⟨gc,q.1,q.2,.slice none 0 0,.slice none 0 0,hA,[],[],rfl,rfl,by simp,by simp,⟨none,0,rfl,by simp,by simp,.inl rfl⟩,⟨none,0,rfl,by simp,by simp,.inl rfl⟩⟩ (s.pc [0,1,2,3,4])⟩
theorem fields_New_walk (room:Int) (w:World) {r:Option Fld × Int} (H:fields_New room = some r):Calls Tryz.prog 36 #[.int .i64 room] w fun e w'=>∃ g:Nat,e = .returned (.tuple #[.pointer (optA g r.1),.int .i64 r.2])∧Sat w [optCh Fld_ch g r.1] w':=by
 unfold fields_New at H
 obtain ⟨y,hy,H⟩:=bindE H
 have h2:y = (none,1) ∨ ∃ c,y = (some c,0):=by
  unfold cache_New at hy
  split at hy
  ·exact .inl (Option.some.inj hy).symm
  exact .inr ⟨_,(Option.some.inj hy).symm⟩
 rcases h2 with rfl | ⟨c,rfl⟩
 ·obtain rfl:=sj H
  exact (fields_New_no room hy w).mono fun e w' ⟨he,hx⟩=>⟨0,he,((Sat.start w).grow hx).addEmpty dead fun _=>trivial⟩
 obtain ⟨c',hc,H⟩:=bindE H
 obtain rfl:=sj H
 exact fields_New_ok room hy hc w
theorem fields_on_walk {w0:World} {F:Ch} (g0:Nat) (x:Fld) (g:Grd) (l:List Bld) {v0 v1:Value} (h0:Rd (Sat w0 [F]) g.tiles [v0]) (h1:Rd (Sat w0 [F]) l [v1]) {r:Fld} (H:fields_on x g l = some r) (w:World) (s:Sat w0 [Fld_ch g0 x,F] w):Calls Tryz.prog 78 #[.pointer (some ⟨g0,0,none⟩),.agg #[.int .i64 g.w,.int .i64 g.h,v0],v1] w fun e w'=>e = .returned (.tuple #[])∧Sat w0 [Fld_ch g0 r,F] w':=by
 refine te Tryz.func78 s ?_
 refine T.ex (fun w s=>Fld_open 0 rfl s) fun q=>?_
 show T _ _ _ _ (Sat w0 [blk g0 [.pointer (some ⟨q.gc,0,none⟩),.int .i64 x.made,.bool x.has,.int .i64 x.g.w,.int .i64 x.g.h,q.tv,q.lv,.map (some q.gn),.map (some q.gw),.int .i64 x.count] 147,F,Cach_ch q.gc x.c,mapL q.gn (raw q.N),mapL q.gw (raw q.W),fz q.hA]) _
 unfold fields_on at H
 obtain ⟨b,hb,H⟩:=bindE H
 refine T.seq fun K1 hK1=>T.region (RS.solid (Sd.box (cs:=[_,_,_]) rfl rfl) rfl rfl fun b4=>RS.nil (hK1 _ _ ?_))
 refine T.seq fun K2 hK2=>T.seq fun _ k3=>T.region (au 3 ?_)
 refine rq (Qt.call ent133 rfl fun w s=>fields_same_walk x g l w (s.getBlk (k:=0) rfl).1 (Rd.ofFz 5 rfl q.rt w s) (Rd.ofFz 5 rfl q.rl w s) (Rd.ofFrame 1 rfl h0 w s) (Rd.ofFrame 1 rfl h1 w s) hb) (RS.nil (k3 _ _ ?_))
 refine T.cond rfl (fun hc9=>?_) (fun hc9=>?_)
 ·refine T.retTo (by with_reducible ((repeat (first | apply RetTo.seq | apply RetTo.blk)); exact RetTo.refl _)) (Cont.ret0 rfl fun w' s=>?_)
  rw [if_pos hc9] at H
  obtain rfl:=sj H
  exact ⟨rfl,Fld_shut q (s.pc [1,0,2,3,4,5])⟩
 have H:=ifB hc9 H
 obtain ⟨c',hc',H⟩:=bindE H
 obtain ⟨g',hg',H⟩:=bindE H
 obtain ⟨l',hl',H⟩:=bindE H
 obtain rfl:=sj H
 refine T.skip (hK2 _ _ (kq [0,2,4] ?_))
 refine T.seq fun _ k4=>T.region (rM rfl (RS.solid (Sd.call ent68 rfl (fun w s=>callFr (A:=[_,_]) (B:=[F,mapL q.gn (raw q.N),mapL q.gw (raw q.W),fz q.hA,_]) (fun w s=>fields_Forget_walk g0 q.gc x.c hc' w s) (s.pc [0,2,1,3,4,5,6]))) rfl rfl fun p=>RS.nil (k4 _ _ ?_)))
 refine T.region (au 4 ?_)
 refine RS.solid (Sd.callN ent32 rfl (fun w s=>ground_Own_walk g w (Rd.ofFrame 4 rfl h0 w s) hg')) rfl rfl fun q1=>rM rfl (RS.solid (Sd.callN ent74 rfl (fun w s=>slices_Clone_Bld_walk l w (Rd.ofFrame 4 rfl h1 w s) hl')) rfl rfl fun q2=>au 9 ?_)
 refine RS.nil (Cont.end0 rfl fun w' s=>?_)
 obtain ⟨hB,⟨l1,p1,hp1,k1⟩,s⟩:=s.absorb 7 9 rfl rfl (by decide)
 obtain ⟨hC,⟨l2,p2,hp2,k2⟩,s⟩:=s.absorb 7 10 rfl rfl (by decide)
 exact ⟨rfl,Fld_shut (x:=⟨c',x.made,true,g',l',[],[],x.count⟩) ⟨q.gc,p.1,p.2,rowV q1 g'.tiles.length,rowV q2 l'.length,hC,[],[],rfl,rfl,by simp,by simp,Enc.mono (Hp.le_trans k1 l2) (row_R hp1),Enc.mono k2 (row_R hp2)⟩ (s.pc [4,0,1,2,3,7])⟩
end Go.Proofs.YtmngdgclldkcfaaGreat
