/-
  Texts of one's own, joined: VL VQ VM.
-/
import Derived.Test.YtmngdgclldkcfaaGreatJ3
import Derived.Laws.LoneSync
import Derived.MapKept
set_option linter.unusedSimpArgs false
set_option linter.unusedVariables false
namespace Go.Vg
open Enc (R)

instance (i:Int):Decidable (I64 i):=by unfold I64; exact inferInstance
theorem gdE {p:Prop} [Decidable p] {α:Type} {k:Option α} {r:α} (h:(if p then k else none) = some r):p∧k = some r:=by
 by_cases hp:p
 ·rw [if_pos hp] at h; exact ⟨hp,h⟩
 ·rw [if_neg hp] at h; cases h
theorem ifT {p:Prop} [Decidable p] {α:Type} {a b:Option α} {r:α} (hp:p) (h:(if p then a else b) = some r):a = some r:=by rw [if_pos hp] at h; exact h
theorem ifF {p:Prop} [Decidable p] {α:Type} {a b:Option α} {r:α} (hp:¬ p) (h:(if p then a else b) = some r):b = some r:=by rw [if_neg hp] at h; exact h
theorem ifB {c:Bool} {α:Type} {a b:Option α} {r:α} (hp:c = false) (h:(if c = true then a else b) = some r):b = some r:=ifF (by rw [hp]; simp) h
theorem bindE {α β:Type} {m:Option α} {k:α→Option β} {r:β} (h:m.bind k = some r):∃ x,m = some x∧k x = some r:=Option.bind_eq_some_iff.1 h

inductive Ex (α β:Type) | go (a:α) | up (b:β)
def Ex.then {α β:Type} (x:Ex α β) (k:α→Option β):Option β:=match x with
  | .go a=>k a
  | .up b=>some b
inductive St (σ β:Type) | next (s:σ) | done (b:β)
def loopN {σ β:Type}:Nat→(σ→Option (St σ β))→σ→Option β
  | 0,_,_=>none
  | n + 1,f,s=>match f s with
    | none=>none
    | some (.next s')=>loopN n f s'
    | some (.done b)=>some b
def FUEL:Nat:=18446744073709551616
def loop {σ β:Type} (f:σ→Option (St σ β)) (s:σ):Option β:=loopN FUEL f s
theorem loopN_step {σ β:Type} {n:Nat} {f:σ→Option (St σ β)} {s:σ} {x:β} (h:loopN n f s = some x) :
  ∃ y,f s = some y∧(∀ b,some (St.done b) = some y→b = x)∧(∀ s',some (St.next s') = some y→∃ n',n' < n∧loopN n' f s' = some x):=by
 cases n with
 | zero=>cases h
 | succ n =>
  unfold loopN at h
  cases hf:f s with
  | none=>simp [hf] at h
  | some y =>
   refine ⟨y,rfl,fun b hb=>?_,fun s' hs=>⟨n,Nat.lt_succ_self n,?_⟩⟩
   ·cases hb; simpa [hf] using h
   ·cases hs; simpa [hf] using h

def Ok {α:Type} (m:Option α) (Q:α→Prop):Prop:=∃ r,m = some r∧Q r
section
variable {α β σ:Type}
theorem Ok.ret {a:α} {Q:α→Prop} (h:Q a):Ok (some a) Q:=⟨a,rfl,h⟩
theorem Ok.gd {p:Prop} [Decidable p] {k:Option α} {Q:α→Prop} (hp:p) (h:Ok k Q):Ok (if p then k else none) Q:=by rw [if_pos hp]; exact h
theorem Ok.ite {p:Prop} [Decidable p] {a b:Option α} {Q:α→Prop} (ht:p→Ok a Q) (hf:¬ p→Ok b Q):Ok (if p then a else b) Q:=by
 split
 ·rename_i h; exact ht h
 ·rename_i h; exact hf h
theorem Ok.bind {m:Option α} {k:α→Option β} {Q:β→Prop} {R:α→Prop} (hm:Ok m R) (hk:∀ x,R x→Ok (k x) Q):Ok (m.bind k) Q:=by
 obtain ⟨x,hx,hr⟩:=hm
 rw [hx]; exact hk x hr
theorem Ok.bindE {m:Option α} {k:α→Option β} {Q:β→Prop} {x:α} (hm:m = some x) (hk:Ok (k x) Q):Ok (m.bind k) Q:=by rw [hm]; exact hk
theorem Ok.mono {m:Option α} {Q R:α→Prop} (h:Ok m Q) (hq:∀ x,Q x→R x):Ok m R:=let ⟨r,e,q⟩:=h; ⟨r,e,hq r q⟩
theorem Ok.eq {m:Option α} {a:α} (h:Ok m (fun x=>x = a)):m = some a:=let ⟨r,e,q⟩:=h; by rw [e,q]
theorem Ok.loop {f:σ→Option (St σ β)} {s0:σ} {Q:β→Prop} (I:σ→Prop) (m:σ→Nat) (h0:I s0) (hm:m s0 < FUEL)
  (step:∀ s,I s→Ok (f s) fun y=>match y with | .next s'=>I s'∧m s' < m s | .done b=>Q b):Ok (Vg.loop f s0) Q:=by
 have key:∀ n s,I s→m s < n→Ok (loopN n f s) Q:=by
  intro n
  induction n with
  | zero=>intro s _ h; omega
  | succ n ih =>
   intro s hi hlt
   obtain ⟨y,hy,hq⟩:=step s hi
   unfold loopN
   rw [hy]
   cases y with
   | next s'=>exact ih s' hq.1 (by have:=hq.2; omega)
   | done b=>exact ⟨b,rfl,hq⟩
 exact key FUEL s0 h0 hm
end

section
variable {P:Program} {n:Nat} {fr:Fr} {S:As} {Q:Po}
theorem T.loopA {σ γ β:Type} {c:Code} {f:σ→Option (St σ β)} {s0:σ} {x:β} (hx:Vg.loop f s0 = some x) (kept:Fr) (FW:σ→γ→Fr) (SS:σ→γ→As) (g0:γ)
  (hk:Sub fr kept) (h0:Sub fr (FW s0 g0)) (hs:∀ w,S w→SS s0 g0 w)
  (round:∀ s g y,f s = some y→(∀ b,some (St.done b) = some y→b = x)→∀ K:Act→World→Prop,
   (∀ fr' S' s' g',some (St.next s') = some y→Sub fr' kept→Sub fr' (FW s' g')→(∀ w,S' w→SS s' g' w)→Cont n K fr' S')→T P n c (FW s g ++ kept) (SS s g) (Exit.then K Q)):T P n (.loop c) fr S Q:=by
 refine T.loop (σ:=Nat × σ × γ) (fun z=>FW z.2.1 z.2.2 ++ kept) (fun z=>SS z.2.1 z.2.2) (fun z=>loopN z.1 f z.2.1 = some x) (fun z=>z.1) (FUEL,s0,g0) hx (Sub.app h0 hk) hs ?_
 rintro ⟨m,s,g⟩ hI K hL
 obtain ⟨y,hy,hd,hn⟩:=loopN_step hI
 refine round s g y hy hd K fun fr' S' s' g' he hk' hs' hw'=>?_
 obtain ⟨n',hlt,hn'⟩:=hn s' he
 exact hL fr' S' (n',s',g') hn' hlt (Sub.app hs' hk') hw'
theorem T.joinA {σ γ α β:Type} {x y:Code} {m:Option α} {k:α→Option β} {r:β} (H:m.bind k = some r) (emb:σ→α) (kept:Fr) (hkp:Sub fr kept) (FW:σ→γ→Fr) (SS:σ→γ→As)
  (hy:∀ s g,k (emb s) = some r→T P n y (FW s g ++ kept) (SS s g) Q)
  (h:∀ z,m = some z→k z = some r→∀ K:Act→World→Prop,(∀ fr' S' s g,k (emb s) = some r→Sub fr' kept→Sub fr' (FW s g)→(∀ w,S' w→SS s g w)→Cont n K fr' S')→T P n x fr S (Exit.then K Q)):T P n (x.seq y) fr S Q:=by
 obtain ⟨z,hz,hr⟩:=Vg.bindE H
 exact T.seq fun K hK=>h z hz hr K fun fr' S' s g hk h1 h2 hw=>hK fr' S' ((hy s g hk).conseq (Sub.app h2 h1) hw)
theorem T.joinE {σ γ α β:Type} {x:Code} {m:Option α} {k:α→Option β} {r:β} (H:m.bind k = some r) (emb:σ→α) (kept:Fr) (hkp:Sub fr kept) (FW:σ→γ→Fr) (SS:σ→γ→As)
  (hy:∀ s g,k (emb s) = some r→Cont n (Q .normal) (FW s g ++ kept) (SS s g))
  (h:∀ z,m = some z→k z = some r→(∀ fr' S' s g,k (emb s) = some r→Sub fr' kept→Sub fr' (FW s g)→(∀ w,S' w→SS s g w)→Cont n (Q .normal) fr' S')→T P n x fr S Q):T P n x fr S Q:=by
 obtain ⟨z,hz,hr⟩:=Vg.bindE H
 exact h z hz hr fun fr' S' s g hk h1 h2 hw=>(hy s g hk).conseq (Sub.app h2 h1) hw

variable {ops:Array Oper} {l:List Oper} {full plan:List (Nat × Kd)} {Cw:As}
theorem RS.joinV (j:Nat) (d:Nat) (u:Value) (kept:Fr) (hk:Sub fr kept) (hy:RS P n ops Q (l.drop j) ((d,u) :: kept) S)
  (h:(∀ fr' S',Sub fr' ((d,u) :: kept)→(∀ w,S' w→S w)→RS P n ops Q (l.drop j) fr' S')→RS P n ops Q l fr S):RS P n ops Q l fr S :=
 h fun _ _ hs hw=>hy.conseq hs hw
def Lk (fr r:Fr):Prop:=∀ i v,look r i = some v→look fr i = some v
theorem Lk.put {fr r:Fr} (h:Lk fr r) (d:Option Nat) (v:Value):Lk (putF d v fr) (putF d v r):=by
 intro i u hu
 cases d with
 | none=>exact h i u hu
 | some d =>
  simp only [putF,look_cons] at hu ⊢
  split
  ·rename_i e; rw [if_pos e] at hu; exact hu
  ·rename_i e; rw [if_neg e] at hu; exact h i u hu
theorem Knows.lk {a:Act} {r:Fr} (k:Knows n fr a) (h:Lk fr r):Knows n r a:=⟨k.size,k.defers,fun i v hi=>k.get i v (h i v hi)⟩
theorem gval_lk {r:Fr} (h:Lk fr r) {ops:Array Oper} {g:Option (Nat × Bool)} {b:Bool} (hg:gval ops r g = some b):gval ops fr g = some b:=by
 unfold gval at hg ⊢
 split
 ·exact hg
 ·rename_i j c
  simp only at hg
  cases hd:(ops[j]?).bind (·.dst) with
  | none=>simp [hd] at hg
  | some d =>
   simp only [hd,Option.bind_some] at hg ⊢
   cases hl:look r d with
   | none=>simp [hl] at hg
   | some u=>rw [h d u hl]; rw [hl] at hg; exact hg
theorem AX.weaken {ops:Array Oper} {kd:Nat→Kd} {Cw:As}:∀ {m:Nat} {listed:Array Bool} {fr r:Fr} {S:As},AX P n ops Q kd Cw m listed r S→Lk fr r→AX P n ops Q kd Cw m listed fr S
 | 0,_,_,_,_,hx,h=>⟨hx.1,fun a w k s=>hx.2 a w (k.lk h) s⟩
 | m + 1,listed,fr,r,S,hx,h=>by
  refine ⟨fun h0 a w k s=>hx.1 h0 a w (k.lk h) s,fun j hj=>?_⟩
  have:=hx.2 j hj
  unfold StepX at *
  split
  ·rename_i ho; simp only [ho] at this; exact AX.weaken this h
  ·rename_i o ho
   simp only [ho] at this
   refine ⟨this.1,?_⟩
   rcases this.2 with ⟨h1,h2⟩ | ⟨h1,ι,val,S',h2,h3,h4,h5,h6⟩
   ·exact .inl ⟨gval_lk h h1,AX.weaken h2 (h.put _ _)⟩
   ·exact .inr ⟨gval_lk h h1,ι,val,S',fun a w k s=>h2 a w (k.lk h) s,h3,h4,h5,fun k e=>AX.weaken (h6 k e) (h.put _ _)⟩
theorem RD.conseq {fr':Fr} (h:RD P n ops Q full Cw plan fr' S) (hf:Sub fr fr'):RD P n ops Q full Cw plan fr S:=by
 intro listed h0 h1 h2 h3 h4 h5
 exact AX.weaken (h listed h0 h1 h2 h3 h4 h5) (fun i v hi=>hf.look i v hi)
theorem RD.joinV (j:Nat) (d:Nat) (u:Value) (kept:Fr) (hk:Sub fr kept) (hy:RD P n ops Q full Cw (plan.drop j) ((d,u) :: kept) S)
  (h:(∀ fr',Sub fr' ((d,u) :: kept)→RD P n ops Q full Cw (plan.drop j) fr' S)→RD P n ops Q full Cw plan fr S):RD P n ops Q full Cw plan fr S :=
 h fun _ hs=>hy.conseq hs
theorem RS.joinB {α β:Type} {m:Option α} {k:α→Option β} {r:β} (H:m.bind k = some r) (j:Nat) (d:Nat) (u:α→Value) (kept:Fr) (hk:Sub fr kept) (hy:∀ b,k b = some r→RS P n ops Q (l.drop j) ((d,u b) :: kept) S)
  (h:∀ b,m = some b→(∀ fr' S',Sub fr' ((d,u b) :: kept)→(∀ w,S' w→S w)→RS P n ops Q (l.drop j) fr' S')→RS P n ops Q l fr S):RS P n ops Q l fr S:=by
 obtain ⟨z,hz,hr⟩:=Vg.bindE H
 exact h z hz fun _ _ hs hw=>(hy z hr).conseq hs hw
theorem RD.joinB {α β:Type} {m:Option α} {k:α→Option β} {r:β} (H:m.bind k = some r) (j:Nat) (d:Nat) (u:α→Value) (kept:Fr) (hk:Sub fr kept) (hy:∀ b,k b = some r→RD P n ops Q full Cw (plan.drop j) ((d,u b) :: kept) S)
  (h:∀ b,m = some b→(∀ fr',Sub fr' ((d,u b) :: kept)→RD P n ops Q full Cw (plan.drop j) fr' S)→RD P n ops Q full Cw plan fr S):RD P n ops Q full Cw plan fr S:=by
 obtain ⟨z,hz,hr⟩:=Vg.bindE H
 exact h z hz fun _ hs=>(hy z hr).conseq hs
theorem RD.know {p:Prop} (hp:∀ w,S w→p) (h:p→RD P n ops Q full Cw plan fr S):RD P n ops Q full Cw plan fr S:=by
 intro listed h0 h1 h2 h3 h4 ⟨w,s⟩
 exact h (hp w s) listed h0 h1 h2 h3 h4 ⟨w,s⟩
end

theorem dAndT {p q:Prop} [Decidable p] [Decidable q] (h:p):some (Value.bool (decide q)) = some (.bool (decide (p∧q))):=by simp [h]
theorem dAndF {p q:Prop} [Decidable p] [Decidable q] (h:¬ p):some (Value.bool false) = some (.bool (decide (p∧q))):=by simp [h]
theorem dOrT {p q:Prop} [Decidable p] [Decidable q] (h:p):some (Value.bool true) = some (.bool (decide (p ∨ q))):=by simp [h]
theorem dOrF {p q:Prop} [Decidable p] [Decidable q] (h:¬ p):some (Value.bool (decide q)) = some (.bool (decide (p ∨ q))):=by simp [h]
theorem and3 {a b c:Prop} (h:a∧b∧c):a∧c:=⟨h.1,h.2.2⟩
theorem bne_of {b:Bool} (h:b = false):¬ b = true:=by rw [h]; exact Bool.false_ne_true
theorem dOrFB {p:Prop} [Decidable p] {b:Bool} (h:¬ p):some (Value.bool b) = some (.bool (decide (p ∨ b = true))):=by simp [h]
theorem pos_of {i:Int} {n:Nat} (h:0 ≤ i∧i < (n:Int)):0 < n:=by omega
theorem idx_of {i:Int} {m n:Nat} (e:m = n) (h:0 ≤ i∧i < (m:Int)):0 ≤ i∧i < (n:Int):=e ▸ h
def dead:Ch:=fun _=>True
section
variable {w0:World} {G:List Ch}
theorem Sat.relen {α:Type} [Enc α] {w:World} {B:Hp} {e:TypeId} {q:Option Nat × Nat} {m:Nat} {xs:List α} (k:Nat) (h:Sat w0 G w) (hk:G[k]? = some (row B e (rowV q m) xs)):Sat w0 (G.set k (row B e (rowV q xs.length) xs)) w :=
 h.weaken k hk _ fun p hp=>by rw [← (h.row_fits hk).1]; exact hp
theorem Sat.nilRow {α:Type} [Enc α] {w:World} (e:TypeId) (h:Sat w0 G w):Sat w0 (G ++ [row nilH e (rowV (none,0) 0) ([]:List α)]) w:=h.addEmpty _ (fun p=>.inl ⟨rfl,rfl⟩)
theorem Sat.litRow {α:Type} [Enc α] {w:World} {n b:Nat} {cs:List Value} {e:TypeId} (k:Nat) (xs:List α) (h:Sat w0 G w) (hk:G[k]? = some (blk b cs e)) (hm:n ≤ maxLen) (hl:xs.length = n) (hr:RF nilH xs cs) :
  Sat w0 (G.set k (row nilH e (rowV (some b,n) n) xs)) w :=
 h.weaken k hk _ fun p hp=>.inr ⟨b,n,cs,[],by rw [hl]; rfl,by simpa [blk] using hp,by omega,hm,by have:=hr.length; simp [this,hl],hr.mono (nilH_le _)⟩
theorem Sat.ofRest {w:World} {k j:Nat} {D:Ch} (h:Sat w0 [restOf G k] w) (hj:G[j]? = some D) (hne:j ≠ k):Sat w0 [D] w:=by
 obtain ⟨e,own,h2⟩:=h
 obtain ⟨p,⟨own',hp⟩,hb⟩:=h2 0 _ rfl
 obtain ⟨q,hq,hbq⟩:=hp j D hne hj
 refine ⟨e,fun _=>0,fun i C hi=>?_⟩
 match i,hi with
 | 0,hi =>
  simp at hi; subst hi
  exact ⟨q,hq,fun b o hbo=>⟨(hb b o (hbq b o hbo).2).1,rfl,(hb b o (hbq b o hbo).2).2.2⟩⟩
 | i + 1,hi=>simp at hi
theorem Rd.rest {α:Type} [Enc α] {k:Nat} (jj:Nat) {D:Ch} (hj:G[jj]? = some D) (hne:jj ≠ k) {x:α} {cs:List Value} (h:Rd (Sat w0 [D]) x cs):Rd (Sat w0 [restOf G k]) x cs:=fun w s=>h w (s.ofRest hj hne)
theorem Rd.ofFrame {α:Type} [Enc α] (k:Nat) {F:Ch} (hk:G[k]? = some F) {x:α} {cs:List Value} (h:Rd (Sat w0 [F]) x cs):Rd (Sat w0 G) x cs:=fun w s=>h w (s.pick [k] (by simp) (by simp [hk]))
theorem Rd.nil {α:Type} [Enc α] {S:As}:Rd S ([]:List α) [.slice none 0 0]:=fun w s=>⟨none,0,rfl,by simp,by simp,.inl rfl⟩
theorem Rd.ofLit {α:Type} [Enc α] {n b:Nat} {cs:List Value} {e:TypeId} {xs:List α} (k:Nat) (hk:G[k]? = some (blk b cs e)) (hm:n ≤ maxLen) (hl:xs.length = n) (hr:RF nilH xs cs):Rd (Sat w0 G) xs [.slice (some ⟨b,0,none⟩) n n] :=
 fun w s=>by
  have h1:=s.litRow (α:=α) k xs hk hm hl hr
  have h2:=h1.getRow (k:=k) (B:=nilH) (v:=rowV (some b,n) n) (by
   have hlt:=(List.getElem?_eq_some_iff.1 hk).1
   simp [hlt]; rfl) (nilH_le _)
  exact h2
theorem Sat.deadRow {w:World} (h:Sat w0 G w):Sat w0 (G ++ [dead]) w:=h.addEmpty _ (fun p=>trivial)
end
section
variable {P:Program} {n:Nat} {fr:Fr} {dst:Option Tmp} {ty:TypeId} {pos:String} {aft:Array Edge} {g:Option (Nat × Bool)} {S:As} {w0:World} {G:List Ch} {Q:Po}
theorem RS.weakS {ops:Array Oper} {l:List Oper} {S':As} (hs:∀ w,S w→S' w) (h:RS P n ops Q l fr S'):RS P n ops Q l fr S:=fun a w k s=>h a w k (hs w s)
theorem Sd.app1c {α:Type} [Enc α] [Flat α] (k k1:Nat) {B:Hp} {x y:Operand} {t e e':TypeId} {by':Nat} {z v:Value} {xs:List α} (y0:α) {news:List Value} {b c:Nat}
  (hk:G[k]? = some (row B e v xs)) (hk1:G[k1]? = some (blk b news e')) (hB:∀ b o,B b = some o→b < w0.heap.size)
  (ht:slTy P t = some (e,Enc.sz α,by')) (hz:zeroOf P e = some z) (hzs:z.cells.size = Enc.sz α) (hx:ev fr x = some v) (hy:ev fr y = some (.slice (some ⟨b,0,none⟩) 1 c))
  (hr:R nilH y0 news) (hlt:xs.length < 1099511627776) (hby:by' ≤ 128) :
  Sd P n ⟨dst,.call { callee:=.builtin .append,args:=#[x,y],argTypes:=#[t,t] },ty,pos,aft,g⟩ fr (Sat w0 G) (fun q=>rowV q (xs ++ [y0]).length) (fun q=>Sat w0 (G.set k (row B e (rowV q (xs ++ [y0]).length) (xs ++ [y0])))):=by
 have h:=Sd.app1 (P:=P) (n:=n) (fr:=fr) (dst:=dst) (ty:=ty) (pos:=pos) (aft:=aft) (g:=g) k k1 hk hk1 hB ht hz hzs hx hy hr
  (by have:=Nat.mul_le_mul (show xs.length + 1 ≤ 1099511627776 by omega) hby; omega) (by unfold maxLen; omega)
 simpa only [List.length_append,List.length_cons,List.length_nil,Nat.zero_add] using h
end
end Go.Vg
set_option linter.unusedSimpArgs false
set_option linter.unusedVariables false
namespace Go.Vg
inductive Pl
  | nil
  | st (i:Nat) (k:Kd) (r:Pl)
  | two (i:Nat) (k:Kd) (r:Pl) (j:Nat) (kj:Kd) (rj:Pl)
def Pl.len:Pl→Nat
  | .nil=>0
  | .st _ _ r=>r.len + 1
  | .two _ _ r _ _ _=>r.len + 1
def plOk (ops:Array Oper) (full:List (Nat × Kd)):Array Bool→Pl→Bool
  | listed,.nil=>(Region.ready .any ops listed).isEmpty
  | listed,.st i k r=>(Region.ready .any ops listed).contains i && full.lookup i == some k &&
    (match k with
      | .pu | .wk=>freeOf ops listed i
      | .rd=>freeOf ops listed i && full.all fun (j,kj)=>kj != .br || listed.getD j true || waitsT ops 8 j i
      | .so | .br=>Region.ready .any ops listed == [i]) &&
    plOk ops full (listed.setIfInBounds i true) r
  | listed,.two i k r j kj rj=>Region.ready .any ops listed == [i,j] && full.lookup i == some k && full.lookup j == some kj && (k == .so || k == .br) && (kj == .so || kj == .br) && r.len == rj.len &&
    plOk ops full (listed.setIfInBounds i true) r && plOk ops full (listed.setIfInBounds j true) rj
def RT (P:Program) (n:Nat) (ops:Array Oper) (Q:Po) (full:List (Nat × Kd)) (Cw:As) (pl:Pl) (fr:Fr) (S:As):Prop :=
  ∀ listed,Closed ops listed→plOk ops full listed pl = true→noSel ops = true→(∃ w,S w)→AX P n ops Q (fun i=>(full.lookup i).getD .so) Cw pl.len listed fr S
def RT1 (P:Program) (n:Nat) (ops:Array Oper) (Q:Po) (full:List (Nat × Kd)) (Cw:As) (i:Nat) (k:Kd) (r:Pl) (fr:Fr) (S:As):Prop :=
  ∀ listed:Array Bool,Closed ops (listed.setIfInBounds i true)→full.lookup i = some k→plOk ops full (listed.setIfInBounds i true) r = true→noSel ops = true→(∃ w,S w) →
    StepX P n ops (fun i=>(full.lookup i).getD .so) Cw i fr S (fun fr' S'=>AX P n ops Q (fun i=>(full.lookup i).getD .so) Cw r.len (listed.setIfInBounds i true) fr' S')
section
variable {P:Program} {n:Nat} {ops:Array Oper} {Q:Po} {full:List (Nat × Kd)} {Cw S:As} {fr:Fr} {pl:Pl}
theorem mem_of_lookup {j:Nat}:∀ {l:List (Nat × Kd)} {k:Kd},l.lookup j = some k→(j,k) ∈ l
 | x :: l,k,h=>by
  obtain ⟨y,ky⟩:=x
  rw [List.lookup_cons] at h
  split at h
  ·rename_i e; cases h; simp at e; simp [e]
  ·exact List.mem_cons_of_mem _ (mem_of_lookup h)
theorem RT.nil (h:Cont n (Q .normal) fr S):RT P n ops Q full Cw .nil fr S:=fun listed _ hp _ _=>⟨by simpa [plOk] using hp,h⟩
theorem RT.quiet {i:Nat} {k:Kd} {o:Oper} {v:Value} (C:As) (hi:ops[i]? = some o) (hk:k = .pu ∨ k = .wk ∨ k = .rd) (hcl:ClE S) (hcw:∀ w,S w→Cw w) (hC:∀ w,S w→C w) (hkC:k ≠ .rd→∀ w,Cw w→C w)
  (hq:QX P n ops o fr C v) (h:RT P n ops Q full Cw pl (putF o.dst v fr) S):RT P n ops Q full Cw (.st i k pl) fr S:=by
 intro listed hclo hp hns hex
 simp only [plOk,Bool.and_eq_true,List.contains_iff_mem,beq_iff_eq] at hp
 obtain ⟨⟨⟨h1,hf⟩,h2⟩,h3⟩:=hp
 have hnb:k ≠ .br:=by rcases hk with rfl | rfl | rfl <;> simp
 have hfree:freeOf ops listed i = true:=by
  rcases hk with rfl | rfl | rfl <;> simp at h2
  ·exact h2
  ·exact h2
  ·exact h2.1
 refine AX.firstG (Good:=fun l=>Closed ops l∧∀ x,l.getD x true = false→listed.getD x true = false) (fun l j hl hj=>⟨hl.1.set hj,fun x hx=>by
  by_cases hjx:j = x
  ·subst hjx; exact hl.2 j (mem_ready.1 hj).1
  ·rw [getD_set_ne true hjx] at hx; exact hl.2 x hx⟩) (noSel_spec hns) hi (by simp [hf,hnb]) pl.len listed fr S C hcl hcw hC ⟨hclo,fun x h=>h⟩ ?_ (freeOf_spec hi hfree) h1 hq (h _ (hclo.set h1) h3 hns hex)
 intro l j hgl hil hjr hkj
 have hl:=hgl.2 j (mem_ready.1 hjr).1
 have hw:=waitsT_ready hgl.1 hil hjr 8
 by_cases hkr:k = .rd
 ·subst hkr
  simp only [Bool.and_eq_true,List.all_eq_true] at h2
  have hj:full.lookup j = some .br:=by
   cases hlj:full.lookup j with
   | none=>simp [hlj] at hkj
   | some x=>simp [hlj] at hkj; rw [hkj]
  have:=h2.2 _ (mem_of_lookup hj)
  simp [hw] at this
  have e:listed[j]?.getD true = false:=by simpa using hl
  rw [e] at this; cases this
 ·exact hkC hkr
theorem RT1.solid {i:Nat} {k:Kd} {o:Oper} (hi:ops[i]? = some o) (hk:k = .so ∨ k = .br) {ι:Type} {val:ι→Value} {S':ι→As} (hd:dOk n o.dst = true) (hg:gval ops fr o.guard = some true) (hs:Sd P n o fr S val S')
  (hcl:∀ x,ClE (S' x)) (hcw:∀ x w,S' x w→Cw w) (hpre:k = .so→∀ x w,S' x w→S w) (h:∀ x,RT P n ops Q full Cw pl (putF o.dst (val x) fr) (S' x)):RT1 P n ops Q full Cw i k pl fr S:=by
 intro listed hclo hf hp hns hex
 unfold StepX
 simp only [hi]
 refine ⟨hd,.inr ⟨hg,ι,val,S',hs,hcl,hcw,fun hnb=>?_,fun x hey=>h x _ hclo hp hns hey⟩⟩
 rcases hk with rfl | rfl
 ·exact hpre rfl
 ·simp [hf] at hnb
theorem RT.solid {i:Nat} {k:Kd} {o:Oper} (hi:ops[i]? = some o) (hk:k = .so ∨ k = .br) {ι:Type} {val:ι→Value} {S':ι→As} (hd:dOk n o.dst = true) (hg:gval ops fr o.guard = some true) (hs:Sd P n o fr S val S')
  (hcl:∀ x,ClE (S' x)) (hcw:∀ x w,S' x w→Cw w) (hpre:k = .so→∀ x w,S' x w→S w) (h:∀ x,RT P n ops Q full Cw pl (putF o.dst (val x) fr) (S' x)):RT P n ops Q full Cw (.st i k pl) fr S:=by
 intro listed hclo hp hns hex
 simp only [plOk,Bool.and_eq_true,List.contains_iff_mem,beq_iff_eq] at hp
 obtain ⟨⟨⟨h1,hf⟩,h2⟩,h3⟩:=hp
 have hone:Region.ready .any ops listed = [i]:=by rcases hk with rfl | rfl <;> simpa using h2
 refine ⟨fun h0=>(by rw [hone] at h0; cases h0),fun j hj=>?_⟩
 rw [hone] at hj
 simp at hj; subst hj
 exact RT1.solid hi hk hd hg hs hcl hcw hpre h listed (hclo.set (by rw [hone]; simp)) hf h3 hns hex
theorem RT.two {i j:Nat} {k kj:Kd} {r rj:Pl} (h1:RT1 P n ops Q full Cw i k r fr S) (h2:RT1 P n ops Q full Cw j kj rj fr S):RT P n ops Q full Cw (.two i k r j kj rj) fr S:=by
 intro listed hclo hp hns hex
 simp only [plOk,Bool.and_eq_true,Bool.or_eq_true,beq_iff_eq] at hp
 obtain ⟨⟨⟨⟨⟨⟨⟨hr,hf⟩,hfj⟩,_⟩,_⟩,hl⟩,hp1⟩,hp2⟩:=hp
 refine ⟨fun h0=>(by rw [hr] at h0; cases h0),fun y hy=>?_⟩
 rw [hr] at hy
 simp at hy
 rcases hy with rfl | rfl
 ·exact h1 listed (hclo.set (by rw [hr]; simp)) hf hp1 hns hex
 ·have:=h2 listed (hclo.set (by rw [hr]; simp)) hfj hp2 hns hex
  rw [← hl] at this
  exact this
theorem RT.p {i:Nat} {o:Oper} {v:Value} {w0:World} {G:List Ch} (hcw:∀ w,Sat w0 G w→Cw w) (hi:ops[i]? = some o) (h:Pu P n o fr v) (hg:gval ops fr o.guard = some true) (hd:dOk n o.dst = true)
  (hr:RT P n ops Q full Cw pl (putF o.dst v fr) (Sat w0 G)):RT P n ops Q full Cw (.st i .pu pl) fr (Sat w0 G) :=
 RT.quiet (fun _=>True) hi (.inl rfl) (ClE.sat _ _) hcw (fun _ _=>trivial) (fun _ _ _=>trivial) ⟨hd,.inr ⟨hg,h.qt⟩⟩ hr
theorem RT.q {i:Nat} {o:Oper} {v:Value} {w0:World} {G:List Ch} (hcw:∀ w,Sat w0 G w→Cw w) (hi:ops[i]? = some o) (h:Qt P n o fr (Sat w0 G) v) (hg:gval ops fr o.guard = some true) (hd:dOk n o.dst = true)
  (hr:RT P n ops Q full Cw pl (putF o.dst v fr) (Sat w0 G)):RT P n ops Q full Cw (.st i .rd pl) fr (Sat w0 G) :=
 RT.quiet (Sat w0 G) hi (.inr (.inr rfl)) (ClE.sat _ _) hcw (fun _ s=>s) (fun h=>absurd rfl h) ⟨hd,.inr ⟨hg,h⟩⟩ hr
theorem RT.w {i:Nat} {o:Oper} {v:Value} {w0:World} {G:List Ch} (hcw:∀ w,Sat w0 G w→Cw w) (hi:ops[i]? = some o) (h:Qt P n o fr Cw v) (hg:gval ops fr o.guard = some true) (hd:dOk n o.dst = true)
  (hr:RT P n ops Q full Cw pl (putF o.dst v fr) (Sat w0 G)):RT P n ops Q full Cw (.st i .wk pl) fr (Sat w0 G) :=
 RT.quiet Cw hi (.inr (.inl rfl)) (ClE.sat _ _) hcw hcw (fun _ _ h=>h) ⟨hd,.inr ⟨hg,h⟩⟩ hr
theorem T.drawnT {id:Nat} (Cw:As) (full:List (Nat × Kd)) (pl:Pl) (hm:P.follows .mixedOrders = true) (hcl:ClE S) (hp:(plOk ops full (Array.replicate ops.size false) pl && noSel ops && pl.len == ops.size) = true)
  (h:RT P n ops Q full Cw pl fr S):T P n (.region id ops true) fr S Q:=by
 simp only [Bool.and_eq_true,beq_iff_eq] at hp
 obtain ⟨⟨h1,h2⟩,h3⟩:=hp
 intro a w k s
 refine wp_region_any hm ?_
 have hx:=h _ Closed.start h1 h2 ⟨_,hcl _ _ s (Ext.drawn w 0)⟩
 rw [h3] at hx
 exact hx.sound _ _ _ _ a _ k (hcl _ _ s (Ext.drawn w _))
end
theorem T.weakS {P:Program} {n:Nat} {fr:Fr} {S S':As} {Q:Po} {c:Code} (hs:∀ w,S w→S' w) (h:T P n c fr S' Q):T P n c fr S Q:=fun a w k s=>h a w k (hs w s)
section
variable {P:Program} {n:Nat} {ops:Array Oper} {Q:Po} {full plan:List (Nat × Kd)} {Cw S:As} {fr:Fr}
end
theorem Sat.cellB {w0 w:World} {G:List Ch} (k:Nat) {b:Nat} {cs cs':List Value} {t:TypeId} (h:Sat w0 G w) (hk:G[k]? = some (blk b cs t)) (e:cs = cs'):Sat w0 (G.set k (blk b cs' t)) w :=
 h.weaken k hk _ fun p hp=>by rw [← e]; exact hp
section
variable {P:Program} {n:Nat} {ops:Array Oper} {Q:Po} {rest:List Oper} {fr:Fr} {S S' S2:As} {K:Act→World→Prop} {c:Code}
theorem RS.wk (hs:∀ w,S w→S' w) (h:RS P n ops Q rest fr S2) (e:S' = S2:=by (try dsimp only [List.set,List.cons_append,List.nil_append,pk,List.filterMap,List.getElem?_cons_zero,List.getElem?_cons_succ]) <;> exact rfl):RS P n ops Q rest fr S:=fun a w k s=>h a w k (e ▸ hs w s)
theorem T.wk (hs:∀ w,S w→S' w) (h:T P n c fr S2 Q) (e:S' = S2:=by (try dsimp only [List.set,List.cons_append,List.nil_append,pk,List.filterMap,List.getElem?_cons_zero,List.getElem?_cons_succ]) <;> exact rfl):T P n c fr S Q:=fun a w k s=>h a w k (e ▸ hs w s)
theorem Cont.wk (hs:∀ w,S w→S' w) (h:Cont n K fr S2) (e:S' = S2:=by (try dsimp only [List.set,List.cons_append,List.nil_append,pk,List.filterMap,List.getElem?_cons_zero,List.getElem?_cons_succ]) <;> exact rfl):Cont n K fr S:=fun a w k s=>h a w k (e ▸ hs w s)
end
theorem pk_some {G:List Ch}:∀ {f:List Nat},(f.all fun i=>decide (i < G.length)) = true→f.map (fun i=>G[i]?) = (pk G f).map some
 | [],_=>rfl
 | i :: f,h=>by
  simp only [List.all_cons,Bool.and_eq_true,decide_eq_true_eq] at h
  have e:G[i]? = some G[i]:=List.getElem?_eq_getElem h.1
  have ih:=pk_some (G:=G) (f:=f) h.2
  unfold pk at ih ⊢
  rw [List.map_cons,List.filterMap_cons,ih,e]
  rfl
theorem Sat.pickP {w0 w:World} {G:List Ch} (s:Sat w0 G w) (f:List Nat) (hn:f.Nodup:=by decide) (hr:(f.all fun i=>decide (i < G.length)) = true:=by rfl):Sat w0 (pk G f) w:=s.pick f hn (pk_some hr)
end Go.Vg
set_option linter.unusedSimpArgs false
set_option linter.unusedVariables false
namespace Go.Vg
open Enc (R)
open Go.MapKept

section
variable {w0 w:World} {G:List Ch}
theorem Sat.exAt {ι:Type} {C:ι→Ch} (k:Nat) (hk:G[k]? = some (exch C)) (h:Sat w0 G w):∃ i,Sat w0 (G.set k (C i)) w:=by
 obtain ⟨h1,own,h2⟩:=h
 have hli:k < G.length:=(List.getElem?_eq_some_iff.1 hk).1
 obtain ⟨p,⟨i,hi⟩,hb⟩:=h2 k _ hk
 refine ⟨i,h1,own,fun j D hj=>?_⟩
 by_cases hji:k = j
 ·subst hji
  rw [List.getElem?_set_self hli] at hj
  exact ⟨p,by have:=Option.some.inj hj; subst this; exact hi,hb⟩
 ·rw [List.getElem?_set_ne hji] at hj
  exact h2 j D hj
open Classical in
theorem Sat.splitAt {A B:Ch} (k:Nat) (hk:G[k]? = some (star A B)) (h:Sat w0 G w):Sat w0 (G.set k A ++ [B]) w:=by
 obtain ⟨h1,own,h2⟩:=h
 have hli:k < G.length:=(List.getElem?_eq_some_iff.1 hk).1
 obtain ⟨r,⟨p,q,hp,hq,hd,h3,h4⟩,hb⟩:=h2 k _ hk
 refine ⟨h1,fun b=>if own b = k then (if p b = none then G.length else k) else own b,fun j D hj=>?_⟩
 rw [List.getElem?_append] at hj
 split at hj
 ·rename_i hjl
  by_cases hji:k = j
  ·subst hji
   rw [List.getElem?_set_self hli] at hj
   have:=Option.some.inj hj; subst this
   exact ⟨p,hp,fun b o hbo=>by
    obtain ⟨a1,a2,a3⟩:=hb b o (h3 b o hbo)
    exact ⟨a1,by simp [a2,hbo],a3⟩⟩
  ·rw [List.getElem?_set_ne hji] at hj
   obtain ⟨u,hu,hbu⟩:=h2 j D hj
   exact ⟨u,hu,fun b o hbo=>by
    obtain ⟨a1,a2,a3⟩:=hbu b o hbo
    exact ⟨a1,by show (if own b = k then _ else own b) = j; rw [a2,if_neg (fun e=>hji e.symm)],a3⟩⟩
 ·rename_i hge
  rw [List.length_set] at hge hj
  have hj0:j - G.length = 0:=by
   rcases Nat.lt_or_ge (j - G.length) 1 with h | h
   ·omega
   ·simp [List.getElem?_eq_none (l:=[B]) (by simpa using h)] at hj
  rw [hj0] at hj
  simp at hj; subst hj
  exact ⟨q,hq,fun b o hbo=>by
   obtain ⟨a1,a2,a3⟩:=hb b o (h4 b o hbo)
   have hpn:p b = none:=(hd b).resolve_right (by rw [hbo]; simp)
   refine ⟨a1,?_,a3⟩
   show (if own b = k then (if p b = none then G.length else k) else own b) = j
   rw [if_pos a2,if_pos hpn]; omega⟩
theorem Sat.openAt {ι:Type} {A:ι→Ch} {L:ι→List Ch} (k:Nat) (hk:G[k]? = some (exch fun i=>stars (A i :: L i))) (h:Sat w0 G w):∃ i,Sat w0 (G.set k (A i) ++ L i) w:=by
 obtain ⟨i,s⟩:=h.exAt k hk
 have hli:k < G.length:=(List.getElem?_eq_some_iff.1 hk).1
 refine ⟨i,?_⟩
 have s2:=s.splitAt (A:=A i) (B:=stars (L i)) k (by rw [List.getElem?_set_self hli]; rfl)
 rw [List.set_set] at s2
 exact Sat.unstars (L i) s2.rotB
end

def mNil:Int→Option Int:=fun _=>none
def kvs (L:List (Int × Int)):List (Value × Value):=L.map fun p=>(.int .i64 p.1,.int .i64 p.2)
def mapCh (b:Nat) (m:Int→Option Int):Ch:=fun h=>∃ es clock L,h b = some (.map es clock)∧es.toList.map (fun e=>(e.key,e.val)) = kvs L∧(L.map (·.1)).Nodup∧∀ k,m k = L.lookup k
def mpTy (P:Program) (t:TypeId):Bool:=match P.underlying t with
  | some (.map k e)=>(match P.underlying k with | some (.int .i64)=>true | _=>false) && (match (P.info? e).bind (·.zero) with | some (.int .i64 0)=>true | _=>false)
  | _=>false
theorem mpTy_spec {P:Program} {t:TypeId} (h:mpTy P t = true):∃ k e,P.underlying t = some (.map k e)∧P.underlying k = some (.int .i64)∧∃ i,P.info? e = some i∧i.zero = some (.int .i64 0):=by
 unfold mpTy at h
 split at h
 ·rename_i k e hu
  simp only [Bool.and_eq_true] at h
  refine ⟨k,e,hu,?_,?_⟩
  ·have:=h.1
   split at this
   ·assumption
   ·cases this
  ·have h2:=h.2
   split at h2
   ·rename_i hz
    obtain ⟨i,hi,hz⟩:=Option.bind_eq_some_iff.1 hz
    exact ⟨i,hi,hz⟩
   ·cases h2
 ·cases h
section
variable {P:Program} {n:Nat} {fr:Fr} {dst:Option Tmp} {ty:TypeId} {pos:String} {aft:Array Edge} {g:Option (Nat × Bool)} {S:As} {w0:World} {G:List Ch}
theorem Sat.getMap {w:World} {k b:Nat} {m:Int→Option Int} (h:Sat w0 G w) (hk:G[k]? = some (mapCh b m)) :
  ∃ es clock L,w.heap[b]? = some (.map es clock)∧es.toList.map (fun e=>(e.key,e.val)) = kvs L∧(L.map (·.1)).Nodup∧∀ k,m k = L.lookup k:=by
 obtain ⟨p,⟨es,clock,L,h1,h2⟩,hl,_⟩:=h.get k hk
 exact ⟨es,clock,L,hl _ _ h1,h2⟩
theorem Sat.setMap {w:World} {k b:Nat} {m m':Int→Option Int} (s:Sat w0 G w) (hk:G[k]? = some (mapCh b m)) {es:Array MapEntry} {clock:Nat} {L:List (Int × Int)}
  (h2:es.toList.map (fun e=>(e.key,e.val)) = kvs L) (h3:(L.map (·.1)).Nodup) (h4:∀ k,m' k = L.lookup k):Sat w0 (G.set k (mapCh b m')) { w with heap:=w.heap.setIfInBounds b (.map es clock) }:=by
 refine s.turn k hk _ rfl rfl rfl (by simp) fun p hp hl hb=>?_
 obtain ⟨es0,c0,L0,e0,_⟩:=hp
 have hbw:=hl _ _ e0
 obtain ⟨g1,g2⟩:=heap_set (o':=.map es clock) (show w.heap[b]? = some _ from hbw)
 refine ⟨fun c hc hn=>g2 c (fun e'=>by rw [e',e0] at hn; cases hn),fun c=>if c = b then some (.map es clock) else p c,⟨es,clock,L,by simp,h2,h3,h4⟩,fun c o hc=>?_⟩
 dsimp only at hc
 split at hc
 ·rename_i hcb; subst hcb; cases hc
  exact ⟨.inl (by rw [e0]; simp),g1⟩
 ·rename_i hcb
  exact ⟨.inl (by rw [hc]; simp),by show (w.heap.setIfInBounds b (.map es clock))[c]? = _; rw [g2 c hcb]; exact hl _ _ hc⟩
theorem Sd.makeMap {t:TypeId}:Sd P n ⟨dst,.makeMap t none,ty,pos,aft,g⟩ fr (Sat w0 G) (fun b:Nat=>.map (some b)) (fun b=>Sat w0 (G ++ [mapCh b mNil])):=fun a w k s=>by
 have:(execOp a.eval ⟨dst,.makeMap t none,ty,pos,aft,g⟩).run P w = .ok (.value (.map (some w.heap.size))) (w.alloc (.map #[] 0)):=by
  simp [execOp,Instr.makeMap]
 rw [this]
 refine ⟨w.heap.size,rfl,s.new (Ext.alloc w _) _ (fun b=>if b = w.heap.size then some (.map #[] 0) else none) ⟨#[],0,[],by simp,rfl,by simp,fun k=>rfl⟩ (fun b o hb=>?_) (fun b o hb=>?_)⟩
 ·dsimp only at hb
  split at hb
  ·rename_i hb'; subst hb'; cases hb
   exact (heap_alloc w _).1
  ·cases hb
 ·split at hb
  ·omega
  ·cases hb
theorem Sd.mapClear (k:Nat) {t:TypeId} {x:Operand} {b:Nat} {m:Int→Option Int} (ht:mpTy P t = true) (hx:ev fr x = some (.map (some b))) (hk:G[k]? = some (mapCh b m)) :
  Sd P n ⟨none,.call { callee:=.builtin .clear,args:=#[x],argTypes:=#[t] },ty,pos,aft,g⟩ fr (Sat w0 G) (fun _:Unit=>.tuple #[]) (fun _=>Sat w0 (G.set k (mapCh b mNil))):=fun a w kn s=>by
 obtain ⟨kt,et,u1,u2,inf,u3,u4⟩:=mpTy_spec ht
 obtain ⟨es,clock,L,e1,e2,e3,e4⟩:=s.getMap hk
 have hr:(execOp a.eval ⟨none,.call { callee:=.builtin .clear,args:=#[x],argTypes:=#[t] },ty,pos,aft,g⟩).run P w = .ok (.value (.tuple #[])) { w with heap:=w.heap.setIfInBounds b (.map #[] clock) }:=by
  simp [execOp,kn.ev hx,resolve,invoke,builtin,Builtin.clear_,run_underlying u1,Go.MapKept.run_getObj_map e1,Result.andThen,Go.MapKept.run_setObj_map _ e1]
 rw [hr]
 exact ⟨(),rfl,s.setMap hk (L:=[]) rfl (by simp) (fun q=>rfl)⟩

theorem run_callF {f:FuncId} {xs:List Operand} {ts:Array TypeId} {vs:List Value} (hx:evs fr xs = some vs) {a:Act} (k:Knows n fr a) (w:World) :
  (execOp a.eval ⟨dst,.call { callee:=.value (.func f),args:=xs.toArray,argTypes:=ts },ty,pos,aft,g⟩).run P w = (callFunc f vs.toArray).run P w:=by
 have:=k.evs hx
 simp [execOp,resolve,Act.eval,Deferred.ofValue,invoke,this]
end

section
variable {P:Program} {n:Nat} {fr:Fr} {dst:Option Tmp} {ty:TypeId} {pos:String} {aft:Array Edge} {g:Option (Nat × Bool)} {S:As} {w0:World} {G:List Ch}
theorem Sd.callF (k:Nat) {C C':Ch} {f:FuncId} {xs:List Operand} {ts:Array TypeId} {vs:List Value} (he:Ent P f) (hx:evs fr xs = some vs) (hk:G[k]? = some C) {ι:Type} {val:ι→Value} {D:ι→List Ch}
  (hc:∀ w,Sat w0 [C,restOf G k] w→Calls P f vs.toArray w (fun e w'=>∃ i,e = .returned (val i)∧Sat w0 ([C',restOf G k] ++ D i) w')) :
  Sd P n ⟨dst,.call { callee:=.value (.func f),args:=xs.toArray,argTypes:=ts },ty,pos,aft,g⟩ fr (Sat w0 G) val (fun i=>Sat w0 (G.set k C' ++ D i)) :=
 Sd.call he hx fun w s=>(hc w (s.focus hk)).mono fun e w' ⟨i,h1,h2⟩=>⟨i,h1,Sat.unfocus (List.getElem?_eq_some_iff.1 hk).1 h2⟩
theorem Sd.callF0 (k:Nat) {C C':Ch} {v:Value} {f:FuncId} {xs:List Operand} {ts:Array TypeId} {vs:List Value} (he:Ent P f) (hx:evs fr xs = some vs) (hk:G[k]? = some C)
  (hc:∀ w,Sat w0 [C,restOf G k] w→Calls P f vs.toArray w (fun e w'=>e = .returned v∧Sat w0 [C',restOf G k] w')) :
  Sd P n ⟨dst,.call { callee:=.value (.func f),args:=xs.toArray,argTypes:=ts },ty,pos,aft,g⟩ fr (Sat w0 G) (fun _:Unit=>v) (fun _=>Sat w0 (G.set k C')) :=
 Sd.call he hx fun w s=>(hc w (s.focus hk)).mono fun e w' ⟨h1,h2⟩=>⟨(),h1,by
  have:=Sat.unfocus (D:=[]) (List.getElem?_eq_some_iff.1 hk).1 (by simpa using h2)
  simpa using this⟩
end
def optA {α:Type} (g:Nat):Option α→Option Addr
  | none=>none
  | some _=>some ⟨g,0,none⟩
def optCh {α:Type} (C:Nat→α→Ch) (g:Nat):Option α→Ch
  | none=>dead
  | some x=>C g x
theorem Sat.optSome {α:Type} {w0 w:World} {G:List Ch} {C:Nat→α→Ch} {g:Nat} {x:α} (k:Nat) (hk:G[k]? = some (optCh C g (some x))) (h:Sat w0 G w):Sat w0 (G.set k (C g x)) w:=by
 have:G.set k (C g x) = G:=by
  obtain ⟨hl,he⟩:=List.getElem?_eq_some_iff.1 hk
  show G.set k (optCh C g (some x)) = G
  exact he ▸ List.set_getElem_self hl
 rw [this]; exact h
section
variable {P:Program} {n:Nat} {fr:Fr} {dst:Option Tmp} {ty:TypeId} {pos:String} {aft:Array Edge} {g:Option (Nat × Bool)}
end

theorem Rd.drop {α:Type} [Enc α] {S:As} {xs:List α} {p:Option Addr} {len cap sz:Nat} (h:Rd S xs [.slice p len cap]) {k:Nat} (hk:k ≤ xs.length) (hsz:sz = Enc.sz α):Rd S (xs.drop k) [.slice (cutP p cap k sz) (len - k) (cap - k)]:=by
 subst hsz; exact fun w s=>drop_reads (h w s) hk
theorem row_take2 {α:Type} [Enc α] {B:Hp} {e:TypeId} {q:Option Nat × Nat} {m k:Nat} {xs:List α} {p:Hp} (h:row B e (rowV q m) xs p) (hk:k ≤ xs.length):row B e (rowV q k) (xs.take k) p:=by
 obtain ⟨o,c⟩:=q
 cases o with
 | some g=>exact row_take h hk rfl
 | none =>
  rcases h with ⟨hv,rfl⟩ | ⟨g,cap,cs,sp,hv,_⟩
  ·simp [rowV] at hv hk
   obtain ⟨rfl,rfl⟩:=hv
   subst hk
   exact .inl ⟨rfl,rfl⟩
  ·simp [rowV] at hv
theorem Sat.cutRow {α:Type} [Enc α] {w0 w:World} {G:List Ch} {B:Hp} {e:TypeId} {q:Option Nat × Nat} {m:Nat} {xs:List α} (k:Nat) (j:Nat) (hk:G[k]? = some (row B e (rowV q m) xs)) (hj:j ≤ xs.length) (h:Sat w0 G w) :
  Sat w0 (G.set k (row B e (rowV q j) (xs.take j))) w:=h.weaken k hk _ fun p hp=>row_take2 hp hj
theorem le_nat {j:Int} {n:Nat} (h:0 ≤ j∧j ≤ (n:Int)):j.toNat ≤ n:=by omega
section
variable {P:Program} {n:Nat} {fr:Fr} {dst:Option Tmp} {ty:TypeId} {pos:String} {aft:Array Edge} {g:Option (Nat × Bool)} {S:As} {w0:World} {G:List Ch}
theorem Sd.appR {α:Type} [Enc α] [Flat α] (k:Nat) {B:Hp} (hB:∀ b o,B b = some o→b < w0.heap.size) {x y:Operand} {t e:TypeId} {by':Nat} {z v vy:Value} {xs ys:List α} (hk:G[k]? = some (row B e v xs))
  (ht:slTy P t = some (e,Enc.sz α,by')) (hz:zeroOf P e = some z) (hzs:z.cells.size = Enc.sz α) (hx:ev fr x = some v) (hy:ev fr y = some vy) (hR:Rd (Sat w0 G) ys [vy])
  (hlt:xs.length + ys.length < 1099511627776) (hby:by' ≤ 128) :
  Sd P n ⟨dst,.call { callee:=.builtin .append,args:=#[x,y],argTypes:=#[t,t] },ty,pos,aft,g⟩ fr (Sat w0 G) (fun q=>rowV q (xs ++ ys).length) (fun q=>Sat w0 (G.set k (row B e (rowV q (xs ++ ys).length) (xs ++ ys)))):=fun a w kn s=>by
 have hbytes:(xs.length + ys.length) * by' ≤ 140737488355328:=by
  have:=Nat.mul_le_mul (show xs.length + ys.length ≤ 1099511627776 by omega) hby; omega
 have h63:xs.length + ys.length ≤ maxLen:=by unfold maxLen; omega
 obtain ⟨p',cap',e',s1,s2,s3⟩:=hR w s
 simp only [List.cons.injEq,and_true] at e'
 subst e'
 have fin:∀ v' w',(Builtin.append_ #[t,t] ty #[v,.slice p' ys.length cap']).run P w = .ok v' w'→Sat w0 (G.set k (row B e v' (xs ++ ys))) w' →
   solidRes P (fun q=>rowV q (xs ++ ys).length) (fun q=>Sat w0 (G.set k (row B e (rowV q (xs ++ ys).length) (xs ++ ys)))) ((execOp a.eval ⟨dst,.call { callee:=.builtin .append,args:=#[x,y],argTypes:=#[t,t] },ty,pos,aft,g⟩).run P w):=fun v' w' hr hs=>by
  rw [run_builtin_append kn hx hy hr]
  have hkl:k < (G.set k (row B e v' (xs ++ ys))).length:=by simpa using (List.getElem?_eq_some_iff.1 hk).1
  obtain ⟨p,hp,_⟩:=hs.get k (List.getElem?_set_self (by simpa using hkl))
  obtain ⟨q',hq⟩:=row_shape hp
  exact ⟨q',hq,by show Sat w0 (G.set k (row B e (rowV q' (xs ++ ys).length) (xs ++ ys))) w'; rw [show rowV q' (xs ++ ys).length = v' from hq.symm]; exact hs⟩
 cases p' with
 | none =>
  have hnil:ys = []:=by
   rcases s3 with h | ⟨b,o,cs,hq,_⟩
   ·exact h
   ·cases hq
  subst hnil
  obtain ⟨p,hp,_⟩:=s.get k hk
  obtain ⟨q',hq⟩:=row_shape hp
  obtain ⟨hu,i,hi,_,_⟩:=slTy_spec ht
  have hlc:xs.length ≤ q'.2:=by
   have h2:=s.row_fits (k:=k) (B:=B) (e:=e) (xs:=xs) (q:=q') (m:=xs.length) (by rw [hk,hq]; rfl)
   exact h2.2.1
  refine fin v w ?_ (by
   have e1:G.set k (row B e v (xs ++ [])) = G:=by
    rw [List.append_nil]
    obtain ⟨hl,he⟩:=List.getElem?_eq_some_iff.1 hk
    exact he ▸ List.set_getElem_self hl
   rw [e1]; exact s)
  subst hq
  obtain ⟨o,c⟩:=q'
  have hlc':xs.length ≤ c:=hlc
  cases o <;> simp [Builtin.append_,run_underlying hu,sizeOf,typeInfo,hi,Builtin.lenOf,Builtin.firstCells,storeCells,hlc']
 | some q =>
  rcases s3 with rfl | ⟨b,o,cs,hq,hr,ha⟩
  ·obtain ⟨v',w',hr',hs⟩:=s.append (ty:=ty) hk ht hz hzs hB (rowAnd_flat (h0:=nilH) (ys:=[]) (news:=[]) (by simp [RF])) (q:=q) (c:=cap') rfl (by simp) hbytes h63
   exact fin v' w' hr' hs
  ·cases hq
   obtain ⟨v',w',hr',hs⟩:=s.append (ty:=ty) hk ht hz hzs hB (rowAnd_flat hr) (q:=⟨b,o,none⟩) (c:=cap') rfl (fun j u hj=>by rw [add_lit]; exact ha.cell hj) hbytes h63
   exact fin v' w' hr' hs
end
section
variable {P:Program} {n:Nat} {fr:Fr} {dst:Option Tmp} {ty:TypeId} {pos:String} {aft:Array Edge} {g:Option (Nat × Bool)} {S:As} {w0:World} {G:List Ch}
theorem Sd.callM (k:Nat) {C:Ch} {f:FuncId} {xs:List Operand} {ts:Array TypeId} {vs:List Value} (he:Ent P f) (hx:evs fr xs = some vs) (hk:G[k]? = some C) {ι:Type} {val:ι→Value} {C':ι→Ch}
  (hc:∀ w,Sat w0 [C,restOf G k] w→Calls P f vs.toArray w (fun e w'=>∃ i,e = .returned (val i)∧Sat w0 [C' i,restOf G k] w')) :
  Sd P n ⟨dst,.call { callee:=.value (.func f),args:=xs.toArray,argTypes:=ts },ty,pos,aft,g⟩ fr (Sat w0 G) val (fun i=>Sat w0 (G.set k (C' i))) :=
 Sd.call he hx fun w s=>(hc w (s.focus hk)).mono fun e w' ⟨i,h1,h2⟩=>⟨i,h1,by
  have:=Sat.unfocus (D:=[]) (List.getElem?_eq_some_iff.1 hk).1 (by simpa using h2)
  simpa using this⟩
end
end Go.Vg
