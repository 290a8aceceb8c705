/-
  Texts of one's own, joined: VF VG.
-/
import Derived.Test.YtmngdgclldkcfaaGreatVE
import Derived.Laws.Small
set_option linter.unusedSimpArgs false
set_option linter.unusedVariables false
namespace Go.Vg

inductive Kd | pu | wk | rd | so | br
  deriving DecidableEq

def waits (ops:Array Oper) (j i:Nat):Bool:=match ops[j]? with
  | some o=>o.after.any fun e=>Region.binds .any e && e.on == i
  | none=>false
def freeOf (ops:Array Oper) (listed:Array Bool) (i:Nat):Bool:=match ops[i]? with
  | some oi=>(List.range ops.size).all fun j=>j == i || listed.getD j true || waits ops j i || (match ops[j]? with | some oj=>oi.apart ops oj | none=>true)
  | none=>false
def waitsT (ops:Array Oper):Nat→Nat→Nat→Bool
  | 0,j,i=>waits ops j i
  | m + 1,j,i=>waits ops j i || (List.range ops.size).any fun k=>waits ops j k && waitsT ops m k i
def planOk (ops:Array Oper):Array Bool→List (Nat × Kd)→Bool
  | listed,[]=>(Region.ready .any ops listed).isEmpty
  | listed,(i,k) :: r =>
    (Region.ready .any ops listed).contains i &&
    (match k with
      | .pu | .wk=>freeOf ops listed i
      | .rd=>freeOf ops listed i && r.all fun (j,kj)=>kj != .br || waitsT ops 8 j i
      | .so | .br=>Region.ready .any ops listed == [i]) &&
    planOk ops (listed.setIfInBounds i true) r
def noSel (ops:Array Oper):Bool:=ops.all fun o=>match o.op with | .select ..=>false | _=>true

section
variable {P:Program} {n:Nat} {ops:Array Oper} {Q:Po} {kd:Nat→Kd} {Cw:As}

def StepX (P:Program) (n:Nat) (ops:Array Oper) (kd:Nat→Kd) (Cw:As) (j:Nat) (fr:Fr) (S:As) (next:Fr→As→Prop):Prop :=
  match ops[j]? with
  | none=>next fr S
  | some o=>dOk n o.dst = true∧((gval ops fr o.guard = some false∧next (putF o.dst undef fr) S) ∨
    (gval ops fr o.guard = some true∧∃ (ι:Type) (val:ι→Value) (S':ι→As),Sd P n o fr S val S' ∧
      (∀ k,ClE (S' k))∧(∀ k w,S' k w→Cw w)∧(kd j ≠ .br→∀ k w,S' k w→S w)∧∀ k,(∃ w,S' k w)→next (putF o.dst (val k) fr) (S' k)))

def AX (P:Program) (n:Nat) (ops:Array Oper) (Q:Po) (kd:Nat→Kd) (Cw:As):Nat→Array Bool→Fr→As→Prop
  | 0,listed,fr,S=>Region.ready .any ops listed = []∧Cont n (Q .normal) fr S
  | m + 1,listed,fr,S=>(Region.ready .any ops listed = []→Cont n (Q .normal) fr S) ∧
    ∀ j ∈ Region.ready .any ops listed,StepX P n ops kd Cw j fr S (fun fr' S'=>AX P n ops Q kd Cw m (listed.setIfInBounds j true) fr' S')

def Closed (ops:Array Oper) (listed:Array Bool):Prop:=∀ a b,listed.getD a true = true→waits ops a b = true→listed.getD b true = true
theorem waits_ready {listed:Array Bool} {j i:Nat} (hj:j ∈ Region.ready .any ops listed) (hw:waits ops j i = true):listed.getD i true = true:=by
 obtain ⟨hjun,oj,hoj,hall⟩:=mem_ready.1 hj
 unfold waits at hw
 simp only [hoj] at hw
 rw [Array.any_eq_true] at hw
 obtain ⟨x,hx,hpx⟩:=hw
 simp only [Bool.and_eq_true,beq_iff_eq] at hpx
 have h1:=hall _ (Array.getElem_mem hx) hpx.1
 rw [hpx.2] at h1
 rcases Nat.lt_or_ge i listed.size with h' | h'
 ·simp [h'] at h1 ⊢; exact h1
 ·simp [Array.getElem?_eq_none h']
theorem waitsT_un {listed:Array Bool} (hc:Closed ops listed) {i:Nat} (hi:listed.getD i true = false):∀ (m j:Nat),waitsT ops m j i = true→listed.getD j true = false
 | 0,j,h=>by
  cases hj:listed.getD j true with
  | false=>rfl
  | true=>rw [hc j i hj h] at hi; cases hi
 | m + 1,j,h=>by
  cases hj:listed.getD j true with
  | false=>rfl
  | true =>
   unfold waitsT at h
   rw [Bool.or_eq_true] at h
   rcases h with h | h
   ·rw [hc j i hj h] at hi; cases hi
   ·obtain ⟨k,_,hk⟩:=List.any_eq_true.1 h
    rw [Bool.and_eq_true] at hk
    have:=waitsT_un hc hi m k hk.2
    rw [hc j k hj hk.1] at this; cases this
theorem waitsT_ready {listed:Array Bool} (hc:Closed ops listed) {i j:Nat} (hi:listed.getD i true = false) (hj:j ∈ Region.ready .any ops listed):∀ m,waitsT ops m j i = false
 | 0=>by
  cases h:waitsT ops 0 j i with
  | false=>rfl
  | true=>rw [waits_ready hj h] at hi; cases hi
 | m + 1=>by
  cases h:waitsT ops (m + 1) j i with
  | false=>rfl
  | true =>
   unfold waitsT at h
   rw [Bool.or_eq_true] at h
   rcases h with h | h
   ·rw [waits_ready hj h] at hi; cases hi
   ·obtain ⟨k,_,hk⟩:=List.any_eq_true.1 h
    rw [Bool.and_eq_true] at hk
    have:=waitsT_un hc hi m k hk.2
    rw [waits_ready hj hk.1] at this; cases this
theorem Closed.set {listed:Array Bool} (hc:Closed ops listed) {j:Nat} (hj:j ∈ Region.ready .any ops listed):Closed ops (listed.setIfInBounds j true):=fun a b ha hw=>by
 have up:∀ x,listed.getD x true = true→(listed.setIfInBounds j true).getD x true = true:=fun x hx=>by
  by_cases hjx:j = x
  ·subst hjx
   rcases Nat.lt_or_ge j listed.size with h' | h'
   ·simp [h']
   ·simp [Array.getElem?_eq_none h']
  ·rw [getD_set_ne true hjx]; exact hx
 by_cases hja:j = a
 ·subst hja; exact up b (waits_ready hj hw)
 ·rw [getD_set_ne true hja] at ha; exact up b (hc a b ha hw)
theorem Closed.start:Closed ops (Array.replicate ops.size false):=fun a b ha hw=>by
 rcases Nat.lt_or_ge a ops.size with h' | h'
 ·simp [h'] at ha
 ·unfold waits at hw
  rw [Array.getElem?_eq_none h'] at hw; cases hw
theorem knows_congr {fr fr':Fr} (h:∀ i,look fr i = look fr' i) {a:Act} (k:Knows n fr' a):Knows n fr a:=⟨k.size,k.defers,fun i v hi=>k.get i v (by rw [← h]; exact hi)⟩
theorem gval_congr {fr fr':Fr} (h:∀ i,look fr i = look fr' i) (g:Option (Nat × Bool)):gval ops fr g = gval ops fr' g:=by
 have:look fr = look fr':=funext h
 cases g with
 | none=>rfl
 | some jb=>simp [gval,this]
theorem look_putF_congr {fr fr':Fr} (h:∀ i,look fr i = look fr' i) (d:Option Nat) (v:Value):∀ i,look (putF d v fr) i = look (putF d v fr') i:=by
 intro i
 cases d with
 | none=>exact h i
 | some d=>simp only [putF,look_cons,h]
theorem StepX.mono {j:Nat} {fr:Fr} {S:As} {N N':Fr→As→Prop} (h:∀ fr S,N fr S→N' fr S) (hs:StepX P n ops kd Cw j fr S N):StepX P n ops kd Cw j fr S N':=by
 unfold StepX at *
 split
 ·rename_i ho; simp only [ho] at hs; exact h _ _ hs
 ·rename_i o ho
  simp only [ho] at hs
  refine ⟨hs.1,?_⟩
  rcases hs.2 with ⟨h1,h2⟩ | ⟨h1,ι,val,S',h2,h3,h4,h5,h6⟩
  ·exact .inl ⟨h1,h _ _ h2⟩
  ·exact .inr ⟨h1,ι,val,S',h2,h3,h4,h5,fun k e=>h _ _ (h6 k e)⟩
theorem AX.congr:∀ {m:Nat} {listed:Array Bool} {fr fr':Fr} {S:As},(∀ i,look fr i = look fr' i)→AX P n ops Q kd Cw m listed fr S→AX P n ops Q kd Cw m listed fr' S
 | 0,listed,fr,fr',S,h,hx=>⟨hx.1,fun a w k s=>hx.2 a w (knows_congr h k) s⟩
 | m + 1,listed,fr,fr',S,h,hx=>by
  refine ⟨fun h0 a w k s=>hx.1 h0 a w (knows_congr h k) s,fun j hj=>?_⟩
  have:=hx.2 j hj
  unfold StepX at *
  split
  ·rename_i ho; simp only [ho] at this; exact AX.congr h this
  ·rename_i o ho
   simp only [ho] at this
   refine ⟨this.1,?_⟩
   rcases this.2 with ⟨h1,h2⟩ | ⟨h1,ι,val,S',h2,h3,h4,h5,h6⟩
   ·exact .inl ⟨by rw [← gval_congr h]; exact h1,AX.congr (look_putF_congr h _ _) h2⟩
   ·exact .inr ⟨by rw [← gval_congr h]; exact h1,ι,val,S',fun a w k s=>h2 a w (knows_congr h k) s,h3,h4,h5,fun k e=>AX.congr (look_putF_congr h _ _) (h6 k e)⟩

theorem AX.sound:∀ (m:Nat) (listed:Array Bool) (fr:Fr) (S:As),AX P n ops Q kd Cw m listed fr S→∀ a w,Knows n fr a→S w→wpAny P .any ops Q m listed a w
 | 0,_,_,_,h,a,w,k,s=>⟨h.1,h.2 a w k s⟩
 | m + 1,listed,fr,S,h,a,w,k,s=>by
  refine ⟨fun h0=>h.1 h0 a w k s,fun j hj=>?_⟩
  have:=h.2 j hj
  unfold StepX at this
  unfold wpOp
  split
  ·rename_i ho; simp only [ho] at this; exact AX.sound m _ _ _ this a w k s
  ·rename_i o ho
   simp only [ho] at this
   obtain ⟨hd,⟨h1,h2⟩ | ⟨h1,ι,val,S',h2,h3,h4,h5,h6⟩⟩:=this
   ·rw [wanted_of k h1,if_neg (by simp)]
    exact AX.sound m _ _ _ h2 _ w (k.putF hd _) s
   ·rw [if_pos (wanted_of k h1)]
    refine .inl ?_
    have:=h2 a w k s
    unfold Oper.wp
    revert this
    generalize (execOp a.eval o).run P w = r
    intro h
    cases r with
    | ok x w' =>
     cases x <;> simp only [solidRes,Oper.upon] at h ⊢
     case value u=>obtain ⟨i,rfl,hs⟩:=h; exact AX.sound m _ _ _ (h6 i ⟨_,hs⟩) _ _ (k.putF hd _) hs
     case skip=>obtain ⟨i,hu,hs⟩:=h; rw [← hu]; exact AX.sound m _ _ _ (h6 i ⟨_,hs⟩) _ _ (k.putF hd _) hs
     case enter f args=>exact h.mono fun e w'' ⟨i,he,hs⟩=>by subst he; exact AX.sound m _ _ _ (h6 i ⟨_,hs⟩) _ _ (k.putF hd _) hs
    | halt x w'=>exact h.elim

def QX (P:Program) (n:Nat) (ops:Array Oper) (o:Oper) (fr:Fr) (C:As) (v:Value):Prop :=
  dOk n o.dst = true∧((gval ops fr o.guard = some false∧v = undef) ∨ (gval ops fr o.guard = some true∧Qt P n o fr C v))

theorem gval_put {o:Oper} {fr:Fr} {d:Option Nat} {v:Value} (h:∀ x,d = some x→x ∉ o.looksAt ops):gval ops (putF d v fr) o.guard = gval ops fr o.guard:=by
 cases d with
 | none=>rfl
 | some d =>
  have hd:=h d rfl
  cases hg:o.guard with
  | none=>rfl
  | some jb =>
   obtain ⟨j,b⟩:=jb
   simp only [gval,putF]
   cases he:(ops[j]?).bind (·.dst) with
   | none=>rfl
   | some e =>
    have hne:e ≠ d:=by
     intro hed
     subst hed
     apply hd
     unfold Oper.looksAt
     refine List.mem_append_right _ ?_
     simp [hg,he]
    simp only [Option.bind_some,look_cons,if_neg hne]
theorem Sd.unput {o:Oper} (hs:∀ cs b,o.op ≠ .select cs b) {fr:Fr} {S:As} {ι:Type} {val:ι→Value} {S':ι→As} {d:Option Nat} {v:Value} (hd:dOk n d = true) (h:∀ x,d = some x→x ∉ o.looksAt ops) (k:Sd P n o (putF d v fr) S val S'):Sd P n o fr S val S':=fun a w kn s=>by
 have:=k (a.put d v) w (kn.putF hd v) s
 rwa [execOp_put (ops:=ops) o hs a d v h] at this
theorem Qt.put {o:Oper} {fr:Fr} {C:As} {v:Value} {d:Option Nat} {u:Value} (k:Qt P n o fr C v) (hl:∀ a,Knows n (putF d u fr) a→∃ a0,Knows n fr a0∧execOp a.eval o = execOp a0.eval o):Qt P n o (putF d u fr) C v:=fun a w kn c=>by
 obtain ⟨a0,k0,e⟩:=hl a kn
 rw [e]; exact k a0 w k0 c
theorem unlook {o:Oper} (hs:∀ cs b,o.op ≠ .select cs b) {fr:Fr} {d:Option Nat} {u:Value} (hd:dOk n d = true) (h:∀ x,d = some x→x ∉ o.looksAt ops) (a:Act) (ka:Knows n (putF d u fr) a):∃ a0,Knows n fr a0∧execOp a.eval o = execOp a0.eval o:=by
 cases d with
 | none=>exact ⟨a,ka,rfl⟩
 | some d =>
  cases hl:look fr d with
  | some v0 =>
   refine ⟨a.put (some d) v0,⟨by simp [Act.put,ka.size],ka.defers,fun i v hi=>?_⟩,(execOp_put (ops:=ops) o hs a (some d) v0 h).symm⟩
   have hdn:d < n:=by simpa [dOk] using hd
   by_cases hid:i = d
   ·subst hid; rw [hl] at hi; cases hi; simp [Act.put,ka.size,hdn]
   ·have:=ka.get i v (by simp only [putF,look_cons,if_neg hid]; exact hi)
    simp [Act.put,Array.getElem?_setIfInBounds_ne (Ne.symm hid),this]
  | none =>
   refine ⟨a,⟨ka.size,ka.defers,fun i v hi=>?_⟩,rfl⟩
   by_cases hid:i = d
   ·subst hid; rw [hl] at hi; cases hi
   ·exact ka.get i v (by simp only [putF,look_cons,if_neg hid]; exact hi)

theorem look_comm {fr:Fr} {d d':Option Nat} {u v:Value} (h:∀ x,d = some x→d' ≠ some x) (i:Nat):look (putF d u (putF d' v fr)) i = look (putF d' v (putF d u fr)) i:=by
 cases d with
 | none=>rfl
 | some d =>
  cases d' with
  | none=>rfl
  | some d' =>
   have hne:d' ≠ d:=fun e=>h d rfl (by rw [e])
   simp only [putF,look_cons]
   by_cases h1:i = d
   ·subst h1
    rw [if_pos rfl,if_neg (fun e=>hne e.symm),if_pos rfl]
   ·rw [if_neg h1,if_neg h1]

theorem AX.firstG {Good:Array Bool→Prop} (hset:∀ listed j,Good listed→j ∈ Region.ready .any ops listed→Good (listed.setIfInBounds j true)) (hsel:∀ (j:Nat) (o:Oper) cs b,ops[j]? = some o→o.op ≠ .select cs b) {i:Nat} {oi:Oper} {v:Value} (hi:ops[i]? = some oi) (hkb:kd i ≠ .br) :
  ∀ (m:Nat) (listed:Array Bool) (fr:Fr) (S C:As),ClE S→(∀ w,S w→Cw w)→(∀ w,S w→C w) →
   Good listed→(∀ l j,Good l→l.getD i true = false→j ∈ Region.ready .any ops l→kd j = .br→∀ w,Cw w→C w) →
   (∀ j oj,ops[j]? = some oj→j ≠ i→listed.getD j true = false→waits ops j i = false→oi.apart ops oj = true) →
   i ∈ Region.ready .any ops listed→QX P n ops oi fr C v →
   AX P n ops Q kd Cw m (listed.setIfInBounds i true) (putF oi.dst v fr) S→AX P n ops Q kd Cw (m + 1) listed fr S:=by
 have own:∀ (fr:Fr) (S C:As) (N:Fr→As→Prop),ClE S→(∀ w,S w→Cw w)→(∀ w,S w→C w)→QX P n ops oi fr C v→N (putF oi.dst v fr) S→StepX P n ops kd Cw i fr S N:=by
  intro fr S C N hcl hcw hC hq hn
  unfold StepX
  simp only [hi]
  refine ⟨hq.1,?_⟩
  rcases hq.2 with ⟨h1,rfl⟩ | ⟨h1,h2⟩
  ·exact .inl ⟨h1,hn⟩
  ·exact .inr ⟨h1,Unit,_,_,h2.sd hcl hC,fun _=>hcl,fun _=>hcw,fun _ _ _ s=>s,fun _ _=>hn⟩
 intro m
 induction m with
 | zero =>
  intro listed fr S C hcl hcw hC hclo hbr hfree hr hq H
  refine ⟨fun h=>(by rw [h] at hr; cases hr),fun j hj=>?_⟩
  by_cases hji:j = i
  ·subst hji; exact own fr S C _ hcl hcw hC hq H
  ·have:=ready_mono hj hji
   rw [H.1] at this
   cases this
 | succ m ih =>
  intro listed fr S C hcl hcw hC hclo hbr hfree hr hq H
  refine ⟨fun h=>(by rw [h] at hr; cases hr),fun j hj=>?_⟩
  by_cases hji:j = i
  ·subst hji; exact own fr S C _ hcl hcw hC hq H
  ·have h1:=H.2 j (ready_mono hj hji)
   obtain ⟨hjun,oj,hoj,hall⟩:=mem_ready.1 hj
   have hiun:=(mem_ready.1 hr).1
   have hnw:waits ops j i = false:=by
    cases hw:waits ops j i with
    | false=>rfl
    | true =>
     unfold waits at hw
     simp only [hoj] at hw
     rw [Array.any_eq_true] at hw
     obtain ⟨x,hx,hpx⟩:=hw
     simp only [Bool.and_eq_true,beq_iff_eq] at hpx
     have h1:=hall _ (Array.getElem_mem hx) hpx.1
     rw [hpx.2] at h1
     rcases Nat.lt_or_ge i listed.size with h' | h'
     ·simp [h'] at hiun h1; rw [hiun] at h1; cases h1
     ·simp [Array.getElem?_eq_none h'] at h1
   have hap:=hfree j oj hoj hji hjun hnw
   obtain ⟨a1,a2,a3⟩:=Oper.apart_spec hap
   have hsi:=fun cs b=>hsel i oi cs b hi
   have hsj:=fun cs b=>hsel j oj cs b hoj
   have hr':i ∈ Region.ready .any ops (listed.setIfInBounds j true):=ready_mono hr (Ne.symm hji)
   have hun:∀ k,(listed.setIfInBounds j true).getD k true = false→listed.getD k true = false:=fun k hk=>by
    by_cases hjk:j = k
    ·subst hjk; exact hjun
    ·rw [getD_set_ne true hjk] at hk; exact hk
   have hclo':=hset _ _ hclo hj
   have hfree':∀ k ok,ops[k]? = some ok→k ≠ i→(listed.setIfInBounds j true).getD k true = false→waits ops k i = false→oi.apart ops ok = true:=fun k ok hk hki hl hw=>hfree k ok hk hki (hun k hl) hw
   have keep:∀ (u:Value),dOk n oj.dst = true→QX P n ops oi (putF oj.dst u fr) C v:=fun u hdj=>by
    refine ⟨hq.1,?_⟩
    rcases hq.2 with ⟨g1,g2⟩ | ⟨g1,g2⟩
    ·exact .inl ⟨by rw [gval_put a3]; exact g1,g2⟩
    ·exact .inr ⟨by rw [gval_put a3]; exact g1,g2.put fun a ka=>unlook hsi hdj a3 a ka⟩
   have swap:∀ (u:Value) (S':As),AX P n ops Q kd Cw m ((listed.setIfInBounds i true).setIfInBounds j true) (putF oj.dst u (putF oi.dst v fr)) S'→AX P n ops Q kd Cw m ((listed.setIfInBounds j true).setIfInBounds i true) (putF oi.dst v (putF oj.dst u fr)) S':=fun u S' h=>by
    rw [Array.setIfInBounds_comm _ _ hji]
    exact h.congr fun x=>look_comm (fun y hy=>fun hh=>a2 y hh hy) x
   unfold StepX at h1 ⊢
   simp only [hoj] at h1 ⊢
   refine ⟨h1.1,?_⟩
   rw [gval_put a1] at h1
   rcases h1.2 with ⟨g1,g2⟩ | ⟨g1,ι,val,S',g2,g3,g4,g5,g6⟩
   ·exact .inl ⟨g1,ih _ _ S C hcl hcw hC hclo' hbr hfree' hr' (keep undef h1.1) (swap _ _ g2)⟩
   ·refine .inr ⟨g1,ι,val,S',Sd.unput hsj hq.1 a1 g2,g3,g4,g5,fun k e=>?_⟩
    refine ih _ _ (S' k) C (g3 k) (g4 k) (fun w s=>?_) hclo' hbr hfree' hr' (keep (val k) h1.1) (swap _ _ (g6 k e))
    by_cases hkj:kd j = .br
    ·exact hbr listed j hclo hiun hj hkj w (g4 k w s)
    ·exact hC w (g5 hkj k w s)
end

def RD (P:Program) (n:Nat) (ops:Array Oper) (Q:Po) (full:List (Nat × Kd)) (Cw:As) (plan:List (Nat × Kd)) (fr:Fr) (S:As):Prop :=
  ∀ listed,Closed ops listed→planOk ops listed plan = true→noSel ops = true→(∀ i k,(i,k) ∈ plan→full.lookup i = some k)→(∀ j,listed.getD j true = false→full.lookup j = some .br→(j,Kd.br) ∈ plan)→(∃ w,S w) →
    AX P n ops Q (fun i=>(full.lookup i).getD .so) Cw plan.length listed fr S

section
variable {P:Program} {n:Nat} {ops:Array Oper} {Q:Po} {full plan:List (Nat × Kd)} {Cw S:As} {fr:Fr}
theorem noSel_spec (h:noSel ops = true):∀ (j:Nat) (o:Oper) cs b,ops[j]? = some o→o.op ≠ .select cs b:=by
 intro j o cs b ho hop
 unfold noSel at h
 rw [Array.all_eq_true_iff_forall_mem] at h
 have:=h o (Array.mem_of_getElem? ho)
 simp [hop] at this
theorem freeOf_spec {listed:Array Bool} {i:Nat} {oi:Oper} (hi:ops[i]? = some oi) (h:freeOf ops listed i = true):∀ j oj,ops[j]? = some oj→j ≠ i→listed.getD j true = false→waits ops j i = false→oi.apart ops oj = true:=by
 intro j oj hj hji hl hw
 unfold freeOf at h
 simp only [hi,List.all_eq_true,List.mem_range] at h
 have:=h j (Array.getElem?_eq_some_iff.1 hj).1
 simp only [hl,hw,hj,Bool.or_false,Bool.or_eq_true,beq_iff_eq] at this
 exact this.resolve_left hji
theorem RD.nil (h:Cont n (Q .normal) fr S):RD P n ops Q full Cw [] fr S:=fun listed _ hp _ _ _ _=>⟨by simpa [planOk] using hp,h⟩
theorem RD.quiet {i:Nat} {k:Kd} {o:Oper} {v:Value} (C:As) (hi:ops[i]? = some o) (hk:k = .pu ∨ k = .wk ∨ k = .rd) (hcl:ClE S) (hcw:∀ w,S w→Cw w) (hC:∀ w,S w→C w) (hkC:k ≠ .rd→∀ w,Cw w→C w)
  (hq:QX P n ops o fr C v) (h:RD P n ops Q full Cw plan (putF o.dst v fr) S):RD P n ops Q full Cw ((i,k) :: plan) fr S:=by
 intro listed hclo hp hns hf hb hex
 simp only [planOk,Bool.and_eq_true,List.contains_iff_mem] at hp
 obtain ⟨⟨h1,h2⟩,h3⟩:=hp
 have hfi:=hf i k (by simp)
 have hnb:k ≠ .br:=by rcases hk with rfl | rfl | rfl <;> simp
 have hfree:freeOf ops listed i = true:=by
  rcases hk with rfl | rfl | rfl <;> simp at h2
  ·exact h2
  ·exact h2
  ·exact h2.1
 refine AX.firstG (Good:=fun l=>Closed ops l∧∀ x,l.getD x true = false→listed.getD x true = false) (fun l j hl hj=>⟨hl.1.set hj,fun x hx=>by
  by_cases hjx:j = x
  ·subst hjx; exact hl.2 j (mem_ready.1 hj).1
  ·rw [getD_set_ne true hjx] at hx; exact hl.2 x hx⟩) (noSel_spec hns) hi (by simp [hfi,hnb]) plan.length listed fr S C hcl hcw hC ⟨hclo,fun x h=>h⟩ ?_ (freeOf_spec hi hfree) h1 hq ?_
 ·intro l j hgl hil hjr hkj
  have hl:=hgl.2 j (mem_ready.1 hjr).1
  have hw:=waitsT_ready hgl.1 hil hjr 8
  by_cases hkr:k = .rd
  ·subst hkr
   simp only [Bool.and_eq_true,List.all_eq_true] at h2
   have hj:full.lookup j = some .br:=by
    cases hlj:full.lookup j with
    | none=>simp [hlj] at hkj
    | some x=>simp [hlj] at hkj; rw [hkj]
   have hmem:=hb j hl hj
   rcases List.mem_cons.1 hmem with e | e
   ·cases e
   ·have:=h2.2 _ e
    simp [hw] at this
  ·exact hkC hkr
 ·refine h _ (hclo.set h1) h3 hns (fun j kj hj=>hf j kj (by simp [hj])) (fun j hl hj=>?_) hex
  have hl':listed.getD j true = false:=by
   by_cases hij:i = j
   ·subst hij
    rw [hfi] at hj; cases hj; exact absurd rfl hnb
   ·rw [getD_set_ne true hij] at hl; exact hl
  rcases List.mem_cons.1 (hb j hl' hj) with e | e
  ·cases e; exact absurd rfl hnb
  ·exact e
theorem RD.solid {i:Nat} {k:Kd} {o:Oper} (hi:ops[i]? = some o) (hk:k = .so ∨ k = .br) {ι:Type} {val:ι→Value} {S':ι→As} (hd:dOk n o.dst = true) (hg:gval ops fr o.guard = some true) (hs:Sd P n o fr S val S')
  (hcl:∀ x,ClE (S' x)) (hcw:∀ x w,S' x w→Cw w) (hpre:k = .so→∀ x w,S' x w→S w) (h:∀ x,RD P n ops Q full Cw plan (putF o.dst (val x) fr) (S' x)):RD P n ops Q full Cw ((i,k) :: plan) fr S:=by
 intro listed hclo hp hns hf hb hex
 simp only [planOk,Bool.and_eq_true,List.contains_iff_mem] at hp
 obtain ⟨⟨h1,h2⟩,h3⟩:=hp
 have hfi:=hf i k (by simp)
 have hone:Region.ready .any ops listed = [i]:=by rcases hk with rfl | rfl <;> simpa using h2
 refine ⟨fun h0=>(by rw [hone] at h0; cases h0),fun j hj=>?_⟩
 rw [hone] at hj
 simp at hj; subst hj
 unfold StepX
 simp only [hi]
 refine ⟨hd,.inr ⟨hg,ι,val,S',hs,hcl,hcw,fun hnb=>?_,fun x hey=>?_⟩⟩
 ·rcases hk with rfl | rfl
  ·exact hpre rfl
  ·simp [hfi] at hnb
 ·refine h x _ (hclo.set h1) h3 hns (fun j kj hj=>hf j kj (by simp [hj])) (fun y hl hy=>?_) hey
  have hjl:j < listed.size ∨ listed.size ≤ j:=Nat.lt_or_ge _ _
  have hne:j ≠ y:=by
   intro e; subst e
   rcases hjl with hjl | hjl
   ·simp [hjl] at hl
   ·simp [Array.getElem?_eq_none hjl] at hl
  rw [getD_set_ne true hne] at hl
  rcases List.mem_cons.1 (hb y hl hy) with e | e
  ·cases e; exact absurd rfl hne
  ·exact e
theorem RD.split (d:Nat) {b:Bool} (hb:look fr d = some (.bool b)) (ht:b = true→RD P n ops Q full Cw plan ((d,.bool true) :: fr) S) (hf:b = false→RD P n ops Q full Cw plan ((d,.bool false) :: fr) S):RD P n ops Q full Cw plan fr S:=by
 intro listed h0 h1 h2 h3 h4 h5
 have hc:∀ i,look ((d,.bool b) :: fr) i = look fr i:=fun i=>by
  rw [look_cons]; split
  ·rename_i e; rw [e,hb]
  ·rfl
 cases b with
 | true=>exact (ht rfl listed h0 h1 h2 h3 h4 h5).congr hc
 | false=>exact (hf rfl listed h0 h1 h2 h3 h4 h5).congr hc
theorem RD.splitP (d:Nat) {p:Prop} [Decidable p] (hb:look fr d = some (.bool (decide p))) (ht:p→RD P n ops Q full Cw plan ((d,.bool true) :: fr) S) (hf:¬ p→RD P n ops Q full Cw plan ((d,.bool false) :: fr) S):RD P n ops Q full Cw plan fr S :=
 RD.split d hb (fun h=>ht (of_decide_eq_true h)) (fun h=>hf (of_decide_eq_false h))

theorem RD.p {i:Nat} {o:Oper} {v:Value} {w0:World} {G:List Ch} (hcw:∀ w,Sat w0 G w→Cw w) (hi:ops[i]? = some o) (h:Pu P n o fr v) (hg:gval ops fr o.guard = some true) (hd:dOk n o.dst = true)
  (hr:RD P n ops Q full Cw plan (putF o.dst v fr) (Sat w0 G)):RD P n ops Q full Cw ((i,.pu) :: plan) fr (Sat w0 G) :=
 RD.quiet (fun _=>True) hi (.inl rfl) (ClE.sat _ _) hcw (fun _ _=>trivial) (fun _ _ _=>trivial) ⟨hd,.inr ⟨hg,h.qt⟩⟩ hr
theorem RD.no {i:Nat} {o:Oper} {w0:World} {G:List Ch} (hcw:∀ w,Sat w0 G w→Cw w) (hi:ops[i]? = some o) (hg:gval ops fr o.guard = some false) (hd:dOk n o.dst = true) {k:Kd} (hk:k = .pu ∨ k = .wk ∨ k = .rd)
  (hr:RD P n ops Q full Cw plan (putF o.dst undef fr) (Sat w0 G)):RD P n ops Q full Cw ((i,k) :: plan) fr (Sat w0 G) :=
 RD.quiet (fun _=>True) hi hk (ClE.sat _ _) hcw (fun _ _=>trivial) (fun _ _ _=>trivial) ⟨hd,.inl ⟨hg,rfl⟩⟩ hr
theorem RD.q {i:Nat} {o:Oper} {v:Value} {w0:World} {G:List Ch} (hcw:∀ w,Sat w0 G w→Cw w) (hi:ops[i]? = some o) (h:Qt P n o fr (Sat w0 G) v) (hg:gval ops fr o.guard = some true) (hd:dOk n o.dst = true)
  (hr:RD P n ops Q full Cw plan (putF o.dst v fr) (Sat w0 G)):RD P n ops Q full Cw ((i,.rd) :: plan) fr (Sat w0 G) :=
 RD.quiet (Sat w0 G) hi (.inr (.inr rfl)) (ClE.sat _ _) hcw (fun _ s=>s) (fun h=>absurd rfl h) ⟨hd,.inr ⟨hg,h⟩⟩ hr
theorem RD.w {i:Nat} {o:Oper} {v:Value} {w0:World} {G:List Ch} (hcw:∀ w,Sat w0 G w→Cw w) (hi:ops[i]? = some o) (h:Qt P n o fr Cw v) (hg:gval ops fr o.guard = some true) (hd:dOk n o.dst = true)
  (hr:RD P n ops Q full Cw plan (putF o.dst v fr) (Sat w0 G)):RD P n ops Q full Cw ((i,.wk) :: plan) fr (Sat w0 G) :=
 RD.quiet Cw hi (.inr (.inl rfl)) (ClE.sat _ _) hcw hcw (fun _ _ h=>h) ⟨hd,.inr ⟨hg,h⟩⟩ hr

theorem T.drawn {id:Nat} (Cw:As) (plan:List (Nat × Kd)) (hm:P.follows .mixedOrders = true) (hcl:ClE S) (hp:(planOk ops (Array.replicate ops.size false) plan && noSel ops && plan.length == ops.size && (plan.all fun (i,k)=>plan.lookup i == some k)) = true)
  (h:RD P n ops Q plan Cw plan fr S):T P n (.region id ops true) fr S Q:=by
 simp only [Bool.and_eq_true,beq_iff_eq,List.all_eq_true] at hp
 obtain ⟨⟨⟨h1,h2⟩,h3⟩,h4⟩:=hp
 intro a w k s
 refine wp_region_any hm ?_
 have hx:=h _ Closed.start h1 h2 (fun i kk hi=>by have:=h4 _ hi; simpa using this) (fun j hl hj=>?_) ⟨_,hcl _ _ s (Ext.drawn w 0)⟩
 ·rw [h3] at hx
  exact hx.sound _ _ _ _ a _ k (hcl _ _ s (Ext.drawn w _))
 ·have:∀ (l:List (Nat × Kd)),l.lookup j = some .br→(j,Kd.br) ∈ l:=by
   intro l
   induction l with
   | nil=>intro h; cases h
   | cons x l ih =>
    obtain ⟨y,ky⟩:=x
    rw [List.lookup_cons]
    split
    ·rename_i e; intro h; cases h; simp at e; simp [e]
    ·intro h; exact List.mem_cons_of_mem _ (ih h)
  exact this plan hj
end
end Go.Vg
set_option linter.unusedSimpArgs false
set_option linter.unusedVariables false
namespace Go.Vg
open Enc (R)

def stTy (P:Program) (t:TypeId):Option (List Value × List (Nat × Nat)) :=
  match P.info? t,P.underlying t with
  | some it,some (.struct fields) =>
    match it.zero,fields.toList.mapM (fun f=>(P.info? f.type).map fun i=>(f.offset,i.size)) with
    | some z,some places=>some (z.cells.toList,places)
    | _,_=>none
  | _,_=>none
theorem built_of {P:Program} {t:TypeId} {z:List Value} {pl:List (Nat × Nat)} (h:stTy P t = some (z,pl)) (vs:List (Nat × Value)):P.built t vs = Instr.fill (pl.toArray[·]?) z.toArray vs:=by
 unfold stTy at h
 unfold Program.built
 cases hit:P.info? t with
 | none=>simp [hit] at h
 | some it =>
  cases hu:P.underlying t with
  | none=>simp [hit,hu] at h
  | some d =>
   cases d <;> try (simp [hit,hu] at h; done)
   case struct fields =>
    cases hz:it.zero with
    | none=>simp [hit,hu,hz] at h
    | some z' =>
     cases hp:fields.toList.mapM (fun f=>(P.info? f.type).map fun i=>(f.offset,i.size)) with
     | none=>simp [hit,hu,hz,hp] at h
     | some places =>
      simp only [hit,hu,hz,hp,Option.some.injEq,Prod.mk.injEq] at h
      obtain ⟨rfl,rfl⟩:=h
      simp only [hz,hp,Array.toArray_toList]
def atTy (P:Program) (t:TypeId):Option (List Value × Nat) :=
  match P.info? t,P.underlying t with
  | some it,some (.array _ e) =>
    match it.zero,P.info? e with
    | some z,some ie=>some (z.cells.toList,ie.size)
    | _,_=>none
  | _,_=>none
theorem builtA_of {P:Program} {t:TypeId} {z:List Value} {sz:Nat} (h:atTy P t = some (z,sz)) (vs:List (Nat × Value)):P.built t vs = Instr.fill (fun i=>some (i * sz,sz)) z.toArray vs:=by
 unfold atTy at h
 unfold Program.built
 cases hit:P.info? t with
 | none=>simp [hit] at h
 | some it =>
  cases hu:P.underlying t with
  | none=>simp [hit,hu] at h
  | some d =>
   cases d <;> try (simp [hit,hu] at h; done)
   case array n e =>
    cases hz:it.zero with
    | none=>simp [hit,hu,hz] at h
    | some z' =>
     cases hp:P.info? e with
     | none=>simp [hit,hu,hz,hp] at h
     | some ie =>
      simp only [hit,hu,hz,hp,Option.some.injEq,Prod.mk.injEq] at h
      obtain ⟨rfl,rfl⟩:=h
      simp only [hz,hp,Array.toArray_toList]

section
variable {P:Program} {n:Nat} {fr:Fr} {dst:Option Tmp} {ty:TypeId} {pos:String} {aft:Array Edge} {g:Option (Nat × Bool)} {S:As} {w0:World} {G:List Ch}
theorem Pu.build {t:TypeId} {z:List Value} {pl:List (Nat × Nat)} {xs:List (Nat × Operand)} {vs:List (Nat × Value)} {cells:List Value} (ht:stTy P t = some (z,pl)) (hx:evp fr xs = some vs) (hc:fillL (pl[·]?) z vs = some cells) :
  Pu P n ⟨dst,.build t xs.toArray,ty,pos,aft,g⟩ fr (.agg cells.toArray):=fun a k w=>by
 have hv:=k.evp hx
 have hm:(xs.toArray.map fun x=>match x with | (i,x)=>(i,a.eval x)).toList = vs:=by simp; exact hv
 have:=run_build (P:=P) w t (xs.toArray.map fun (i,x)=>(i,a.eval x)) cells.toArray (by rw [hm,built_of ht]; simpa using fill_of hc)
 simp only [execOp,Sem.run_bind,this,Result.andThen_ok,Sem.run_pure]
theorem Pu.buildAr {t:TypeId} {z:List Value} {sz:Nat} {xs:List (Nat × Operand)} {vs:List (Nat × Value)} {cells:List Value} (ht:atTy P t = some (z,sz)) (hx:evp fr xs = some vs) (hc:fillL (fun i=>some (i * sz,sz)) z vs = some cells) :
  Pu P n ⟨dst,.build t xs.toArray,ty,pos,aft,g⟩ fr (.agg cells.toArray):=fun a k w=>by
 have hv:=k.evp hx
 have hm:(xs.toArray.map fun x=>match x with | (i,x)=>(i,a.eval x)).toList = vs:=by simp; exact hv
 have:=run_build (P:=P) w t (xs.toArray.map fun (i,x)=>(i,a.eval x)) cells.toArray (by rw [hm,builtA_of ht]; exact fill_of hc)
 simp only [execOp,Sem.run_bind,this,Result.andThen_ok,Sem.run_pure]
theorem Pu.maxI {x y:Operand} {ts:Array TypeId} {k k':IntKind} {a b:Int} (hx:ev fr x = some (.int k a)) (hy:ev fr y = some (.int k' b)) :
  Pu P n ⟨dst,.call { callee:=.builtin .max,args:=#[x,y],argTypes:=ts },ty,pos,aft,g⟩ fr (.int k (max a b)):=fun ac kn w=>by
 have h:=run_max_int2 (P:=P) w ts ty k k' a b
 have e:(if b > a then b else a) = max a b:=by rw [Int.max_def]; split <;> split <;> omega
 rw [e] at h
 simp [execOp,resolve,invoke,builtin,kn.ev hx,kn.ev hy,h]
theorem Pu.minI {x y:Operand} {ts:Array TypeId} {k k':IntKind} {a b:Int} (hx:ev fr x = some (.int k a)) (hy:ev fr y = some (.int k' b)) :
  Pu P n ⟨dst,.call { callee:=.builtin .min,args:=#[x,y],argTypes:=ts },ty,pos,aft,g⟩ fr (.int k (min a b)):=fun ac kn w=>by
 have h:=run_min_int2 (P:=P) w ts ty k k' a b
 have e:(if b < a then b else a) = min a b:=by rw [Int.min_def]; split <;> split <;> omega
 rw [e] at h
 simp [execOp,resolve,invoke,builtin,kn.ev hx,kn.ev hy,h]

def cutP (p:Option Addr) (cap l sz:Nat):Option Addr:=if cap = l then p else p.map (·.add (l * sz))
theorem run_sliceOf {t e:TypeId} {sz by' len cap:Nat} {p:Option Addr} (ht:slTy P t = some (e,sz,by')) (lo hi:Option Value) (l h:Nat) (w:World) (hb:(Instr.sliceBounds true len cap lo hi none).run P w = .ok (l,h,cap) w) :
  (Instr.sliceAt t (.slice p len cap) lo hi none).run P w = .ok (.slice (cutP p cap l sz) (h - l) (cap - l)) w:=by
 obtain ⟨h1,inf,h2,rfl,_⟩:=slTy_spec ht
 simp [Instr.sliceAt,Instr.slice,run_underlying h1,hb,run_sizeOf_info h2,cutP]
theorem Pu.sliceL {t e:TypeId} {x lo:Operand} {sz by' len cap:Nat} {p:Option Addr} {k:IntKind} {j:Int} (ht:slTy P t = some (e,sz,by')) (hx:ev fr x = some (.slice p len cap)) (hl:ev fr lo = some (.int k j)) (h:0 ≤ j∧j ≤ len) :
  Pu P n ⟨dst,.slice t x (some lo) none none,ty,pos,aft,g⟩ fr (.slice (cutP p cap j.toNat sz) (len - j.toNat) (cap - j.toNat)):=fun a kn w=>by
 have:=run_sliceOf (P:=P) (p:=p) ht (some (.int k j)) none j.toNat len w (cap:=cap) (len:=len) (by simp [Instr.sliceBounds,Instr.sliceBound,asIntOf,h.1,h.2])
 simp only [execOp,kn.ev hx,Option.map_some,Option.map_none,kn.ev hl,Sem.run_bind,this,Result.andThen_ok,Sem.run_pure]
theorem Pu.sliceLH {t e:TypeId} {x lo hi:Operand} {sz by' len cap:Nat} {p:Option Addr} {k k':IntKind} {j i:Int} (ht:slTy P t = some (e,sz,by')) (hx:ev fr x = some (.slice p len cap)) (hl:ev fr lo = some (.int k j)) (hh:ev fr hi = some (.int k' i)) (h:0 ≤ j∧j ≤ i∧i ≤ cap) :
  Pu P n ⟨dst,.slice t x (some lo) (some hi) none,ty,pos,aft,g⟩ fr (.slice (cutP p cap j.toNat sz) (i.toNat - j.toNat) (cap - j.toNat)):=fun a kn w=>by
 have h0:0 ≤ i:=by omega
 have hm:max i 0 = i:=by omega
 have:=run_sliceOf (P:=P) (p:=p) ht (some (.int k j)) (some (.int k' i)) j.toNat i.toNat w (cap:=cap) (len:=len) (by simp [Instr.sliceBounds,Instr.sliceBound,asIntOf,h.1,h.2.1,h.2.2,h0,hm])
 simp only [execOp,kn.ev hx,Option.map_some,Option.map_none,kn.ev hl,kn.ev hh,Sem.run_bind,this,Result.andThen_ok,Sem.run_pure]
theorem cut_reads {α:Type} [Enc α] {h:Hp} {xs:List α} {p:Option Addr} {len cap:Nat} (hr:R h xs [.slice p len cap]) {l k:Nat} (hlk:l ≤ k) (hk:k ≤ xs.length) :
  R h ((xs.take k).drop l) [.slice (cutP p cap l (Enc.sz α)) (k - l) (cap - l)]:=by
 obtain ⟨p',cap',e,h1,h2,h3⟩:=hr
 simp at e
 obtain ⟨rfl,rfl,rfl⟩:=e
 refine ⟨cutP p cap l (Enc.sz α),cap - l,by simp [Nat.min_eq_left hk],by simp; omega,by unfold maxLen at *; omega,?_⟩
 rcases h3 with rfl | ⟨b,o,cs,rfl,hr,ha⟩
 ·left; simp
 ·by_cases hc:cap = l
  ·left
   apply List.eq_nil_of_length_eq_zero
   simp; omega
  ·right
   refine ⟨b,o + l * Enc.sz α,(cs.take (k * Enc.sz α)).drop (l * Enc.sz α),by simp [cutP,hc,add_lit],(hr.take k).drop l,?_⟩
   obtain ⟨c,t,f,hb,hg⟩:=ha
   refine ⟨c,t,f,hb,fun j v hj=>?_⟩
   rw [List.getElem?_drop,List.getElem?_take] at hj
   split at hj
   ·rw [Nat.add_assoc]; exact hg _ _ hj
   ·cases hj
theorem take_reads {α:Type} [Enc α] {h:Hp} {xs:List α} {p:Option Addr} {len cap:Nat} (hr:R h xs [.slice p len cap]) {k:Nat} (hk:k ≤ xs.length) :
  R h (xs.take k) [.slice p k cap]:=by
 have:=cut_reads hr (Nat.zero_le k) hk
 have e:cutP p cap 0 (Enc.sz α) = p:=by unfold cutP; split <;> cases p <;> simp [Addr.add]
 simpa [e] using this
theorem drop_reads {α:Type} [Enc α] {h:Hp} {xs:List α} {p:Option Addr} {len cap:Nat} (hr:R h xs [.slice p len cap]) {l:Nat} (hl:l ≤ xs.length) :
  R h (xs.drop l) [.slice (cutP p cap l (Enc.sz α)) (len - l) (cap - l)]:=by
 have hlen:len = xs.length:=by obtain ⟨p',cap',e,_⟩:=hr; simp at e; exact e.2.1
 have:=cut_reads hr hl (Nat.le_refl _)
 rw [List.take_length] at this
 rw [hlen]; exact this
end

theorem R_len {α:Type} [Enc α] {h:Hp} {xs:List α} {p:Option Addr} {len cap:Nat} (hr:R h xs [.slice p len cap]):len = xs.length∧len ≤ cap∧cap ≤ maxLen:=by
 obtain ⟨p',cap',e,h1,h2,_⟩:=hr
 simp at e
 obtain ⟨rfl,rfl,rfl⟩:=e
 exact ⟨rfl,h1,h2⟩
theorem R_form {α:Type} [Enc α] {h:Hp} {xs:List α} {v:Value} (hr:R h xs [v]):∃ p cap,v = .slice p xs.length cap:=by
 obtain ⟨p,cap,e,_⟩:=hr
 simp at e
 exact ⟨p,cap,e⟩
theorem R_ptr {α:Type} [Enc α] {h:Hp} {xs:List α} {p:Option Addr} {len cap:Nat} (hr:R h xs [.slice p len cap]) (hne:xs ≠ []):∃ b o,p = some ⟨b,o,none⟩:=by
 obtain ⟨p',cap',e,_,_,h3⟩:=hr
 simp at e
 obtain ⟨rfl,rfl,rfl⟩:=e
 rcases h3 with rfl | ⟨b,o,cs,rfl,_⟩
 ·exact absurd rfl hne
 ·exact ⟨b,o,rfl⟩
theorem Sat.drop1 {w0 w:World} {G D:List Ch} (h:Sat w0 (G ++ D) w):Sat w0 G w:=by
 obtain ⟨e,own,h2⟩:=h
 refine ⟨e,own,fun i C hi=>h2 i C ?_⟩
 rw [List.getElem?_append_left (List.getElem?_eq_some_iff.1 hi).1]; exact hi
theorem Sat.row_some {α:Type} [Enc α] {w0 w:World} {G:List Ch} {k m:Nat} {B:Hp} {e:TypeId} {q:Option Nat × Nat} {xs:List α} (h:Sat w0 G w) (hk:G[k]? = some (row B e (rowV q m) xs)) (hne:0 < xs.length):∃ g cap,q = (some g,cap):=by
 obtain ⟨p,hp,_⟩:=h.get k hk
 rcases hp with ⟨_,rfl⟩ | ⟨g,cap,cs,sp,hv,_⟩
 ·simp at hne
 ·obtain ⟨o,c⟩:=q
  cases o with
  | none=>simp [rowV] at hv
  | some g'=>exact ⟨g',c,rfl⟩
theorem row_take {α:Type} [Enc α] {B:Hp} {e:TypeId} {q:Option Nat × Nat} {m k:Nat} {xs:List α} {p:Hp} (h:row B e (rowV q m) xs p) (hk:k ≤ xs.length) (hq:q.1.isSome = true):row B e (rowV q k) (xs.take k) p:=by
 rcases h with ⟨hv,rfl⟩ | ⟨g,cap,cs,sp,hv,h1,h2,h3,h4,h5⟩
 ·obtain ⟨o,c⟩:=q
  cases o with
  | none=>cases hq
  | some g=>simp [rowV] at hv
 ·obtain ⟨o,c⟩:=q
  cases o with
  | none=>cases hq
  | some g' =>
   simp only [rowV,Value.slice.injEq,Option.map_some,Option.some.injEq,Addr.mk.injEq,and_true] at hv
   obtain ⟨rfl,rfl,rfl⟩:=hv
   have hl:=h5.length
   refine .inr ⟨g',c,cs.take (k * Enc.sz α),cs.drop (k * Enc.sz α) ++ sp,by simp [rowV,Nat.min_eq_left hk],by rw [← List.append_assoc,List.take_append_drop]; exact h1,by simp; omega,h3,?_,h5.take k⟩
   rw [← List.append_assoc,List.take_append_drop]; exact h4
theorem ieq {k:IntKind} {a b:Int} (h:a = b):some (Value.int k a) = some (Value.int k b):=by rw [h]
end Go.Vg
