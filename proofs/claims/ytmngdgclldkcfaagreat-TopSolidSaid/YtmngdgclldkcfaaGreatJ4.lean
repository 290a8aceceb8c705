/-
  Texts of one's own, joined: VQ VM.
-/
import Derived.Test.YtmngdgclldkcfaaGreatJ3
import Derived.Laws.LoneSync
import Derived.MapKept
set_option linter.unusedSimpArgs false
set_option linter.unusedVariables false
namespace Go.Vg
inductive Pl
  | nil
  | st (i:Nat) (k:Kd) (r:Pl)
  | two (i:Nat) (k:Kd) (r:Pl) (j:Nat) (kj:Kd) (rj:Pl)
def Pl.len:Pl→Nat
  | .nil=>0
  | .st _ _ r=>r.len + 1
  | .two _ _ r _ _ _=>r.len + 1
def plOk (ops:Array Oper) (full:List (Nat × Kd)):Array Bool→Pl→Bool
  | listed,.nil=>(Region.ready .any ops listed).isEmpty
  | listed,.st i k r=>(Region.ready .any ops listed).contains i && full.lookup i == some k &&
    (match k with
      | .pu | .wk=>freeOf ops listed i
      | .rd=>freeOf ops listed i && full.all fun (j,kj)=>kj != .br || listed.getD j true || waitsT ops 8 j i
      | .so | .br=>Region.ready .any ops listed == [i]) &&
    plOk ops full (listed.setIfInBounds i true) r
  | listed,.two i k r j kj rj=>Region.ready .any ops listed == [i,j] && full.lookup i == some k && full.lookup j == some kj && (k == .so || k == .br) && (kj == .so || kj == .br) && r.len == rj.len &&
    plOk ops full (listed.setIfInBounds i true) r && plOk ops full (listed.setIfInBounds j true) rj
def RT (P:Program) (n:Nat) (ops:Array Oper) (Q:Po) (full:List (Nat × Kd)) (Cw:As) (pl:Pl) (fr:Fr) (S:As):Prop :=
  ∀ listed,Closed ops listed→plOk ops full listed pl = true→noSel ops = true→(∃ w,S w)→AX P n ops Q (fun i=>(full.lookup i).getD .so) Cw pl.len listed fr S
def RT1 (P:Program) (n:Nat) (ops:Array Oper) (Q:Po) (full:List (Nat × Kd)) (Cw:As) (i:Nat) (k:Kd) (r:Pl) (fr:Fr) (S:As):Prop :=
  ∀ listed:Array Bool,Closed ops (listed.setIfInBounds i true)→full.lookup i = some k→plOk ops full (listed.setIfInBounds i true) r = true→noSel ops = true→(∃ w,S w) →
    StepX P n ops (fun i=>(full.lookup i).getD .so) Cw i fr S (fun fr' S'=>AX P n ops Q (fun i=>(full.lookup i).getD .so) Cw r.len (listed.setIfInBounds i true) fr' S')
section
variable {P:Program} {n:Nat} {ops:Array Oper} {Q:Po} {full:List (Nat × Kd)} {Cw S:As} {fr:Fr} {pl:Pl}
theorem mem_of_lookup {j:Nat}:∀ {l:List (Nat × Kd)} {k:Kd},l.lookup j = some k→(j,k) ∈ l
 | x :: l,k,h=>by
  obtain ⟨y,ky⟩:=x
  rw [List.lookup_cons] at h
  split at h
  ·rename_i e; cases h; simp at e; simp [e]
  ·exact List.mem_cons_of_mem _ (mem_of_lookup h)
theorem RT.nil (h:Cont n (Q .normal) fr S):RT P n ops Q full Cw .nil fr S:=fun listed _ hp _ _=>⟨by simpa [plOk] using hp,h⟩
theorem RT.quiet {i:Nat} {k:Kd} {o:Oper} {v:Value} (C:As) (hi:ops[i]? = some o) (hk:k = .pu ∨ k = .wk ∨ k = .rd) (hcl:ClE S) (hcw:∀ w,S w→Cw w) (hC:∀ w,S w→C w) (hkC:k ≠ .rd→∀ w,Cw w→C w)
  (hq:QX P n ops o fr C v) (h:RT P n ops Q full Cw pl (putF o.dst v fr) S):RT P n ops Q full Cw (.st i k pl) fr S:=by
 intro listed hclo hp hns hex
 simp only [plOk,Bool.and_eq_true,List.contains_iff_mem,beq_iff_eq] at hp
 obtain ⟨⟨⟨h1,hf⟩,h2⟩,h3⟩:=hp
 have hnb:k ≠ .br:=by rcases hk with rfl | rfl | rfl <;> simp
 have hfree:freeOf ops listed i = true:=by
  rcases hk with rfl | rfl | rfl <;> simp at h2
  ·exact h2
  ·exact h2
  ·exact h2.1
 refine AX.firstG (Good:=fun l=>Closed ops l∧∀ x,l.getD x true = false→listed.getD x true = false) (fun l j hl hj=>⟨hl.1.set hj,fun x hx=>by
  by_cases hjx:j = x
  ·subst hjx; exact hl.2 j (mem_ready.1 hj).1
  ·rw [getD_set_ne true hjx] at hx; exact hl.2 x hx⟩) (noSel_spec hns) hi (by simp [hf,hnb]) pl.len listed fr S C hcl hcw hC ⟨hclo,fun x h=>h⟩ ?_ (freeOf_spec hi hfree) h1 hq (h _ (hclo.set h1) h3 hns hex)
 intro l j hgl hil hjr hkj
 have hl:=hgl.2 j (mem_ready.1 hjr).1
 have hw:=waitsT_ready hgl.1 hil hjr 8
 by_cases hkr:k = .rd
 ·subst hkr
  simp only [Bool.and_eq_true,List.all_eq_true] at h2
  have hj:full.lookup j = some .br:=by
   cases hlj:full.lookup j with
   | none=>simp [hlj] at hkj
   | some x=>simp [hlj] at hkj; rw [hkj]
  have:=h2.2 _ (mem_of_lookup hj)
  simp [hw] at this
  have e:listed[j]?.getD true = false:=by simpa using hl
  rw [e] at this; cases this
 ·exact hkC hkr
theorem RT1.solid {i:Nat} {k:Kd} {o:Oper} (hi:ops[i]? = some o) (hk:k = .so ∨ k = .br) {ι:Type} {val:ι→Value} {S':ι→As} (hd:dOk n o.dst = true) (hg:gval ops fr o.guard = some true) (hs:Sd P n o fr S val S')
  (hcl:∀ x,ClE (S' x)) (hcw:∀ x w,S' x w→Cw w) (hpre:k = .so→∀ x w,S' x w→S w) (h:∀ x,RT P n ops Q full Cw pl (putF o.dst (val x) fr) (S' x)):RT1 P n ops Q full Cw i k pl fr S:=by
 intro listed hclo hf hp hns hex
 unfold StepX
 simp only [hi]
 refine ⟨hd,.inr ⟨hg,ι,val,S',hs,hcl,hcw,fun hnb=>?_,fun x hey=>h x _ hclo hp hns hey⟩⟩
 rcases hk with rfl | rfl
 ·exact hpre rfl
 ·simp [hf] at hnb
theorem RT.solid {i:Nat} {k:Kd} {o:Oper} (hi:ops[i]? = some o) (hk:k = .so ∨ k = .br) {ι:Type} {val:ι→Value} {S':ι→As} (hd:dOk n o.dst = true) (hg:gval ops fr o.guard = some true) (hs:Sd P n o fr S val S')
  (hcl:∀ x,ClE (S' x)) (hcw:∀ x w,S' x w→Cw w) (hpre:k = .so→∀ x w,S' x w→S w) (h:∀ x,RT P n ops Q full Cw pl (putF o.dst (val x) fr) (S' x)):RT P n ops Q full Cw (.st i k pl) fr S:=by
 intro listed hclo hp hns hex
 simp only [plOk,Bool.and_eq_true,List.contains_iff_mem,beq_iff_eq] at hp
 obtain ⟨⟨⟨h1,hf⟩,h2⟩,h3⟩:=hp
 have hone:Region.ready .any ops listed = [i]:=by rcases hk with rfl | rfl <;> simpa using h2
 refine ⟨fun h0=>(by rw [hone] at h0; cases h0),fun j hj=>?_⟩
 rw [hone] at hj
 simp at hj; subst hj
 exact RT1.solid hi hk hd hg hs hcl hcw hpre h listed (hclo.set (by rw [hone]; simp)) hf h3 hns hex
theorem RT.two {i j:Nat} {k kj:Kd} {r rj:Pl} (h1:RT1 P n ops Q full Cw i k r fr S) (h2:RT1 P n ops Q full Cw j kj rj fr S):RT P n ops Q full Cw (.two i k r j kj rj) fr S:=by
 intro listed hclo hp hns hex
 simp only [plOk,Bool.and_eq_true,Bool.or_eq_true,beq_iff_eq] at hp
 obtain ⟨⟨⟨⟨⟨⟨⟨hr,hf⟩,hfj⟩,_⟩,_⟩,hl⟩,hp1⟩,hp2⟩:=hp
 refine ⟨fun h0=>(by rw [hr] at h0; cases h0),fun y hy=>?_⟩
 rw [hr] at hy
 simp at hy
 rcases hy with rfl | rfl
 ·exact h1 listed (hclo.set (by rw [hr]; simp)) hf hp1 hns hex
 ·have:=h2 listed (hclo.set (by rw [hr]; simp)) hfj hp2 hns hex
  rw [← hl] at this
  exact this
theorem RT.p {i:Nat} {o:Oper} {v:Value} {w0:World} {G:List Ch} (hcw:∀ w,Sat w0 G w→Cw w) (hi:ops[i]? = some o) (h:Pu P n o fr v) (hg:gval ops fr o.guard = some true) (hd:dOk n o.dst = true)
  (hr:RT P n ops Q full Cw pl (putF o.dst v fr) (Sat w0 G)):RT P n ops Q full Cw (.st i .pu pl) fr (Sat w0 G) :=
 RT.quiet (fun _=>True) hi (.inl rfl) (ClE.sat _ _) hcw (fun _ _=>trivial) (fun _ _ _=>trivial) ⟨hd,.inr ⟨hg,h.qt⟩⟩ hr
theorem RT.q {i:Nat} {o:Oper} {v:Value} {w0:World} {G:List Ch} (hcw:∀ w,Sat w0 G w→Cw w) (hi:ops[i]? = some o) (h:Qt P n o fr (Sat w0 G) v) (hg:gval ops fr o.guard = some true) (hd:dOk n o.dst = true)
  (hr:RT P n ops Q full Cw pl (putF o.dst v fr) (Sat w0 G)):RT P n ops Q full Cw (.st i .rd pl) fr (Sat w0 G) :=
 RT.quiet (Sat w0 G) hi (.inr (.inr rfl)) (ClE.sat _ _) hcw (fun _ s=>s) (fun h=>absurd rfl h) ⟨hd,.inr ⟨hg,h⟩⟩ hr
theorem RT.w {i:Nat} {o:Oper} {v:Value} {w0:World} {G:List Ch} (hcw:∀ w,Sat w0 G w→Cw w) (hi:ops[i]? = some o) (h:Qt P n o fr Cw v) (hg:gval ops fr o.guard = some true) (hd:dOk n o.dst = true)
  (hr:RT P n ops Q full Cw pl (putF o.dst v fr) (Sat w0 G)):RT P n ops Q full Cw (.st i .wk pl) fr (Sat w0 G) :=
 RT.quiet Cw hi (.inr (.inl rfl)) (ClE.sat _ _) hcw hcw (fun _ _ h=>h) ⟨hd,.inr ⟨hg,h⟩⟩ hr
theorem T.drawnT {id:Nat} (Cw:As) (full:List (Nat × Kd)) (pl:Pl) (hm:P.follows .mixedOrders = true) (hcl:ClE S) (hp:(plOk ops full (Array.replicate ops.size false) pl && noSel ops && pl.len == ops.size) = true)
  (h:RT P n ops Q full Cw pl fr S):T P n (.region id ops true) fr S Q:=by
 simp only [Bool.and_eq_true,beq_iff_eq] at hp
 obtain ⟨⟨h1,h2⟩,h3⟩:=hp
 intro a w k s
 refine wp_region_any hm ?_
 have hx:=h _ Closed.start h1 h2 ⟨_,hcl _ _ s (Ext.drawn w 0)⟩
 rw [h3] at hx
 exact hx.sound _ _ _ _ a _ k (hcl _ _ s (Ext.drawn w _))
theorem T.drawnTS {id:Nat} {w0:World} {G:List Ch} (f:List Nat) (full:List (Nat × Kd)) (pl:Pl) (hm:P.follows .mixedOrders = true) (hp:(plOk ops full (Array.replicate ops.size false) pl && noSel ops && pl.len == ops.size) = true)
  {H:List Ch} (hH:pk G f = H) (h:RT P n ops Q full (Sat w0 H) pl fr (Sat w0 G)):T P n (.region id ops true) fr (Sat w0 G) Q:=T.drawnT _ full pl hm (ClE.sat _ _) hp h
end
theorem T.weakS {P:Program} {n:Nat} {fr:Fr} {S S':As} {Q:Po} {c:Code} (hs:∀ w,S w→S' w) (h:T P n c fr S' Q):T P n c fr S Q:=fun a w k s=>h a w k (hs w s)
section
variable {P:Program} {n:Nat} {ops:Array Oper} {Q:Po} {full plan:List (Nat × Kd)} {Cw S:As} {fr:Fr}
theorem RD.noS {i:Nat} {k:Kd} {o:Oper} (hi:ops[i]? = some o) (hk:k = .so ∨ k = .br) (hd:dOk n o.dst = true) (hg:gval ops fr o.guard = some false)
  (h:RD P n ops Q full Cw plan (putF o.dst undef fr) S):RD P n ops Q full Cw ((i,k) :: plan) fr S:=by
 intro listed hclo hp hns hf hb hex
 simp only [planOk,Bool.and_eq_true,List.contains_iff_mem] at hp
 obtain ⟨⟨h1,h2⟩,h3⟩:=hp
 have hone:Region.ready .any ops listed = [i]:=by rcases hk with rfl | rfl <;> simpa using h2
 refine ⟨fun h0=>(by rw [hone] at h0; cases h0),fun j hj=>?_⟩
 rw [hone] at hj
 simp at hj; subst hj
 unfold StepX
 simp only [hi]
 refine ⟨hd,.inl ⟨hg,h _ (hclo.set (by rw [hone]; simp)) h3 hns (fun j kj hj=>hf j kj (by simp [hj])) (fun y hl hy=>?_) hex⟩⟩
 have hjl:j < listed.size ∨ listed.size ≤ j:=Nat.lt_or_ge _ _
 have hne:j ≠ y:=by
  intro e; subst e
  rcases hjl with hjl | hjl
  ·simp [hjl] at hl
  ·simp [Array.getElem?_eq_none hjl] at hl
 rw [getD_set_ne true hne] at hl
 rcases List.mem_cons.1 (hb y hl hy) with e | e
 ·cases e; exact absurd rfl hne
 ·exact e
end
theorem Sat.cellB {w0 w:World} {G:List Ch} (k:Nat) {b:Nat} {cs cs':List Value} {t:TypeId} (h:Sat w0 G w) (hk:G[k]? = some (blk b cs t)) (e:cs = cs'):Sat w0 (G.set k (blk b cs' t)) w :=
 h.weaken k hk _ fun p hp=>by rw [← e]; exact hp
section
variable {P:Program} {n:Nat} {ops:Array Oper} {Q:Po} {rest:List Oper} {fr:Fr} {S S' S2:As} {K:Act→World→Prop} {c:Code}
theorem RS.wk (hs:∀ w,S w→S' w) (h:RS P n ops Q rest fr S2) (e:S' = S2:=by (try dsimp only [List.set,List.cons_append,List.nil_append,pk,List.filterMap,List.getElem?_cons_zero,List.getElem?_cons_succ]) <;> exact rfl):RS P n ops Q rest fr S:=fun a w k s=>h a w k (e ▸ hs w s)
theorem T.wk (hs:∀ w,S w→S' w) (h:T P n c fr S2 Q) (e:S' = S2:=by (try dsimp only [List.set,List.cons_append,List.nil_append,pk,List.filterMap,List.getElem?_cons_zero,List.getElem?_cons_succ]) <;> exact rfl):T P n c fr S Q:=fun a w k s=>h a w k (e ▸ hs w s)
theorem Cont.wk (hs:∀ w,S w→S' w) (h:Cont n K fr S2) (e:S' = S2:=by (try dsimp only [List.set,List.cons_append,List.nil_append,pk,List.filterMap,List.getElem?_cons_zero,List.getElem?_cons_succ]) <;> exact rfl):Cont n K fr S:=fun a w k s=>h a w k (e ▸ hs w s)
end
theorem pk_some {G:List Ch}:∀ {f:List Nat},(f.all fun i=>decide (i < G.length)) = true→f.map (fun i=>G[i]?) = (pk G f).map some
 | [],_=>rfl
 | i :: f,h=>by
  simp only [List.all_cons,Bool.and_eq_true,decide_eq_true_eq] at h
  have e:G[i]? = some G[i]:=List.getElem?_eq_getElem h.1
  have ih:=pk_some (G:=G) (f:=f) h.2
  unfold pk at ih ⊢
  rw [List.map_cons,List.filterMap_cons,ih,e]
  rfl
theorem Sat.pickP {w0 w:World} {G:List Ch} (s:Sat w0 G w) (f:List Nat) (hn:f.Nodup:=by decide) (hr:(f.all fun i=>decide (i < G.length)) = true:=by rfl):Sat w0 (pk G f) w:=s.pick f hn (pk_some hr)
end Go.Vg
set_option linter.unusedSimpArgs false
set_option linter.unusedVariables false
namespace Go.Vg
open Enc (R)
open Go.MapKept

section
variable {w0 w:World} {G:List Ch}
theorem Sat.exAt {ι:Type} {C:ι→Ch} (k:Nat) (hk:G[k]? = some (exch C)) (h:Sat w0 G w):∃ i,Sat w0 (G.set k (C i)) w:=by
 obtain ⟨h1,own,h2⟩:=h
 have hli:k < G.length:=(List.getElem?_eq_some_iff.1 hk).1
 obtain ⟨p,⟨i,hi⟩,hb⟩:=h2 k _ hk
 refine ⟨i,h1,own,fun j D hj=>?_⟩
 by_cases hji:k = j
 ·subst hji
  rw [List.getElem?_set_self hli] at hj
  exact ⟨p,by have:=Option.some.inj hj; subst this; exact hi,hb⟩
 ·rw [List.getElem?_set_ne hji] at hj
  exact h2 j D hj
open Classical in
theorem Sat.splitAt {A B:Ch} (k:Nat) (hk:G[k]? = some (star A B)) (h:Sat w0 G w):Sat w0 (G.set k A ++ [B]) w:=by
 obtain ⟨h1,own,h2⟩:=h
 have hli:k < G.length:=(List.getElem?_eq_some_iff.1 hk).1
 obtain ⟨r,⟨p,q,hp,hq,hd,h3,h4⟩,hb⟩:=h2 k _ hk
 refine ⟨h1,fun b=>if own b = k then (if p b = none then G.length else k) else own b,fun j D hj=>?_⟩
 rw [List.getElem?_append] at hj
 split at hj
 ·rename_i hjl
  by_cases hji:k = j
  ·subst hji
   rw [List.getElem?_set_self hli] at hj
   have:=Option.some.inj hj; subst this
   exact ⟨p,hp,fun b o hbo=>by
    obtain ⟨a1,a2,a3⟩:=hb b o (h3 b o hbo)
    exact ⟨a1,by simp [a2,hbo],a3⟩⟩
  ·rw [List.getElem?_set_ne hji] at hj
   obtain ⟨u,hu,hbu⟩:=h2 j D hj
   exact ⟨u,hu,fun b o hbo=>by
    obtain ⟨a1,a2,a3⟩:=hbu b o hbo
    exact ⟨a1,by show (if own b = k then _ else own b) = j; rw [a2,if_neg (fun e=>hji e.symm)],a3⟩⟩
 ·rename_i hge
  rw [List.length_set] at hge hj
  have hj0:j - G.length = 0:=by
   rcases Nat.lt_or_ge (j - G.length) 1 with h | h
   ·omega
   ·simp [List.getElem?_eq_none (l:=[B]) (by simpa using h)] at hj
  rw [hj0] at hj
  simp at hj; subst hj
  exact ⟨q,hq,fun b o hbo=>by
   obtain ⟨a1,a2,a3⟩:=hb b o (h4 b o hbo)
   have hpn:p b = none:=(hd b).resolve_right (by rw [hbo]; simp)
   refine ⟨a1,?_,a3⟩
   show (if own b = k then (if p b = none then G.length else k) else own b) = j
   rw [if_pos a2,if_pos hpn]; omega⟩
theorem Sat.openAt {ι:Type} {A:ι→Ch} {L:ι→List Ch} (k:Nat) (hk:G[k]? = some (exch fun i=>stars (A i :: L i))) (h:Sat w0 G w):∃ i,Sat w0 (G.set k (A i) ++ L i) w:=by
 obtain ⟨i,s⟩:=h.exAt k hk
 have hli:k < G.length:=(List.getElem?_eq_some_iff.1 hk).1
 refine ⟨i,?_⟩
 have s2:=s.splitAt (A:=A i) (B:=stars (L i)) k (by rw [List.getElem?_set_self hli]; rfl)
 rw [List.set_set] at s2
 exact Sat.unstars (L i) s2.rotB
end

def mNil:Int→Option Int:=fun _=>none
def mPut (m:Int→Option Int) (k v:Int):Int→Option Int:=fun j=>if j = k then some v else m j
def mDel (m:Int→Option Int) (k:Int):Int→Option Int:=fun j=>if j = k then none else m j
def kvs (L:List (Int × Int)):List (Value × Value):=L.map fun p=>(.int .i64 p.1,.int .i64 p.2)
def mapCh (b:Nat) (m:Int→Option Int):Ch:=fun h=>∃ es clock L,h b = some (.map es clock)∧es.toList.map (fun e=>(e.key,e.val)) = kvs L∧(L.map (·.1)).Nodup∧∀ k,m k = L.lookup k
theorem findNow_in (k:Int):∀ (es:List MapEntry) (L:List (Int × Int)) (i:Nat),es.map (fun e=>(e.key,e.val)) = kvs L →
  (L.lookup k = none∧Instr.findNow (.int .i64) (.int .i64 k) es i = some none) ∨ ∃ j v,L[j]? = some (k,v)∧L.lookup k = some v∧Instr.findNow (.int .i64) (.int .i64 k) es i = some (some (i + j,.int .i64 v))
 | [],L,i,h=>by
  cases L with
  | nil=>exact .inl ⟨rfl,rfl⟩
  | cons a L=>simp [kvs] at h
 | e :: es,L,i,h=>by
  cases L with
  | nil=>simp [kvs] at h
  | cons a L =>
   obtain ⟨k',v'⟩:=a
   simp only [kvs,List.map_cons,List.cons.injEq,Prod.mk.injEq] at h
   obtain ⟨⟨h1,h2⟩,h3⟩:=h
   by_cases hk:k = k'
   ·subst hk
    exact .inr ⟨0,v',rfl,by simp,by simp [Instr.findNow,Instr.sameNow,h1,h2]⟩
   ·have hb:(k == k') = false:=by simp [hk]
    have hs:Instr.findNow (.int .i64) (.int .i64 k) (e :: es) i = Instr.findNow (.int .i64) (.int .i64 k) es (i + 1):=by
     simp [Instr.findNow,Instr.sameNow,h1,hb]
    rcases findNow_in k es L (i + 1) h3 with ⟨g1,g2⟩ | ⟨j,v,g1,g2,g3⟩
    ·exact .inl ⟨by simp [List.lookup,hb,g1],by rw [hs,g2]⟩
    ·exact .inr ⟨j + 1,v,by simpa using g1,by simp [List.lookup,hb,g2],by rw [hs,g3]; simp; omega⟩
theorem lookup_none {k:Int}:∀ {L:List (Int × Int)},k ∉ L.map (·.1)→L.lookup k = none
 | [],_=>rfl
 | (a,b) :: L,h=>by
  simp only [List.map_cons,List.mem_cons,not_or] at h
  have:(k == a) = false:=by simp [h.1]
  simp [List.lookup,this,lookup_none h.2]
theorem lookup_set {k v:Int}:∀ {L:List (Int × Int)} {j:Nat} {u:Int},L[j]? = some (k,u)→(L.map (·.1)).Nodup→∀ i,(L.set j (k,v)).lookup i = if i = k then some v else L.lookup i
 | [],j,u,h,_,i=>by simp at h
 | (a,b) :: L,0,u,h,_,i=>by
  simp at h; obtain ⟨rfl,rfl⟩:=h
  by_cases hi:i = a
  ·subst hi; simp
  ·have:(i == a) = false:=by simp [hi]
   simp [List.lookup,this,hi]
 | (a,b) :: L,j + 1,u,h,hn,i=>by
  simp only [List.map_cons,List.nodup_cons] at hn
  have hm:(k,u) ∈ L:=List.mem_of_getElem? (by simpa using h)
  have hka:a ≠ k:=fun e=>hn.1 (by rw [e]; exact List.mem_map.2 ⟨_,hm,rfl⟩)
  have ih:=lookup_set (v:=v) (L:=L) (j:=j) (u:=u) (by simpa using h) hn.2 i
  by_cases hi:i = a
  ·subst hi; simp [hka]
  ·have:(i == a) = false:=by simp [hi]
   simp only [List.set_cons_succ,List.lookup,this]
   exact ih
theorem lookup_erase {k:Int}:∀ {L:List (Int × Int)} {j:Nat} {u:Int},L[j]? = some (k,u)→(L.map (·.1)).Nodup→∀ i,(L.eraseIdx j).lookup i = if i = k then none else L.lookup i
 | [],j,u,h,_,i=>by simp at h
 | (a,b) :: L,0,u,h,hn,i=>by
  simp at h; obtain ⟨rfl,rfl⟩:=h
  simp only [List.map_cons,List.nodup_cons] at hn
  by_cases hi:i = a
  ·subst hi; simp [lookup_none hn.1]
  ·have:(i == a) = false:=by simp [hi]
   simp [List.lookup,this,hi]
 | (a,b) :: L,j + 1,u,h,hn,i=>by
  simp only [List.map_cons,List.nodup_cons] at hn
  have hm:(k,u) ∈ L:=List.mem_of_getElem? (by simpa using h)
  have hka:a ≠ k:=fun e=>hn.1 (by rw [e]; exact List.mem_map.2 ⟨_,hm,rfl⟩)
  have ih:=lookup_erase (L:=L) (j:=j) (u:=u) (by simpa using h) hn.2 i
  by_cases hi:i = a
  ·subst hi; simp [hka]
  ·have:(i == a) = false:=by simp [hi]
   simp only [List.eraseIdx_cons_succ,List.lookup,this]
   exact ih
theorem lookup_push {k v:Int}:∀ {L:List (Int × Int)},L.lookup k = none→∀ i,(L ++ [(k,v)]).lookup i = if i = k then some v else L.lookup i
 | [],_,i=>by
  by_cases hi:i = k
  ·subst hi; simp
  ·have:(i == k) = false:=by simp [hi]
   simp [List.lookup,this,hi]
 | (a,b) :: L,h,i=>by
  have hka:(k == a) = false:=by
   cases hb:(k == a) with
   | false=>rfl
   | true=>simp [List.lookup,hb] at h
  have ih:=lookup_push (v:=v) (L:=L) (by simpa [List.lookup,hka] using h) i
  by_cases hi:i = a
  ·subst hi
   have:¬ i = k:=fun e=>by subst e; simp at hka
   simp [this]
  ·have:(i == a) = false:=by simp [hi]
   simp only [List.cons_append,List.lookup,this]
   exact ih
theorem lookup_notin {k:Int}:∀ {L:List (Int × Int)},L.lookup k = none→k ∉ L.map (·.1)
 | [],_=>by simp
 | (a,b) :: L,h=>by
  have hka:(k == a) = false:=by
   cases hb:(k == a) with
   | false=>rfl
   | true=>simp [List.lookup,hb] at h
  have:=lookup_notin (L:=L) (by simpa [List.lookup,hka] using h)
  simp only [List.map_cons,List.mem_cons,not_or]
  exact ⟨by simpa using hka,this⟩
theorem nodup_set {k v u:Int} {L:List (Int × Int)} {j:Nat} (h:L[j]? = some (k,u)) (hn:(L.map (·.1)).Nodup):((L.set j (k,v)).map (·.1)).Nodup:=by
 rw [List.map_set]
 have e:(L.map (·.1))[j]? = some k:=by simp [h]
 have hs:(L.map (·.1)).set j k = L.map (·.1):=by
  obtain ⟨hl,he⟩:=List.getElem?_eq_some_iff.1 e
  exact he ▸ List.set_getElem_self hl
 show ((L.map (·.1)).set j k).Nodup
 rw [hs]; exact hn
theorem nodup_push {k v:Int} {L:List (Int × Int)} (h:L.lookup k = none) (hn:(L.map (·.1)).Nodup):((L ++ [(k,v)]).map (·.1)).Nodup:=by
 rw [List.map_append,List.nodup_append]
 refine ⟨hn,by simp,fun a ha b hb=>?_⟩
 simp at hb; subst hb
 exact fun e=>lookup_notin h (e ▸ ha)
def mpTy (P:Program) (t:TypeId):Bool:=match P.underlying t with
  | some (.map k e)=>(match P.underlying k with | some (.int .i64)=>true | _=>false) && (match (P.info? e).bind (·.zero) with | some (.int .i64 0)=>true | _=>false)
  | _=>false
theorem mpTy_spec {P:Program} {t:TypeId} (h:mpTy P t = true):∃ k e,P.underlying t = some (.map k e)∧P.underlying k = some (.int .i64)∧∃ i,P.info? e = some i∧i.zero = some (.int .i64 0):=by
 unfold mpTy at h
 split at h
 ·rename_i k e hu
  simp only [Bool.and_eq_true] at h
  refine ⟨k,e,hu,?_,?_⟩
  ·have:=h.1
   split at this
   ·assumption
   ·cases this
  ·have h2:=h.2
   split at h2
   ·rename_i hz
    obtain ⟨i,hi,hz⟩:=Option.bind_eq_some_iff.1 hz
    exact ⟨i,hi,hz⟩
   ·cases h2
 ·cases h
section
variable {P:Program} {n:Nat} {fr:Fr} {dst:Option Tmp} {ty:TypeId} {pos:String} {aft:Array Edge} {g:Option (Nat × Bool)} {S:As} {w0:World} {G:List Ch}
theorem Sat.getMap {w:World} {k b:Nat} {m:Int→Option Int} (h:Sat w0 G w) (hk:G[k]? = some (mapCh b m)) :
  ∃ es clock L,w.heap[b]? = some (.map es clock)∧es.toList.map (fun e=>(e.key,e.val)) = kvs L∧(L.map (·.1)).Nodup∧∀ k,m k = L.lookup k:=by
 obtain ⟨p,⟨es,clock,L,h1,h2⟩,hl,_⟩:=h.get k hk
 exact ⟨es,clock,L,hl _ _ h1,h2⟩
theorem Sat.setMap {w:World} {k b:Nat} {m m':Int→Option Int} (s:Sat w0 G w) (hk:G[k]? = some (mapCh b m)) {es:Array MapEntry} {clock:Nat} {L:List (Int × Int)}
  (h2:es.toList.map (fun e=>(e.key,e.val)) = kvs L) (h3:(L.map (·.1)).Nodup) (h4:∀ k,m' k = L.lookup k):Sat w0 (G.set k (mapCh b m')) { w with heap:=w.heap.setIfInBounds b (.map es clock) }:=by
 refine s.turn k hk _ rfl rfl rfl (by simp) fun p hp hl hb=>?_
 obtain ⟨es0,c0,L0,e0,_⟩:=hp
 have hbw:=hl _ _ e0
 obtain ⟨g1,g2⟩:=heap_set (o':=.map es clock) (show w.heap[b]? = some _ from hbw)
 refine ⟨fun c hc hn=>g2 c (fun e'=>by rw [e',e0] at hn; cases hn),fun c=>if c = b then some (.map es clock) else p c,⟨es,clock,L,by simp,h2,h3,h4⟩,fun c o hc=>?_⟩
 dsimp only at hc
 split at hc
 ·rename_i hcb; subst hcb; cases hc
  exact ⟨.inl (by rw [e0]; simp),g1⟩
 ·rename_i hcb
  exact ⟨.inl (by rw [hc]; simp),by show (w.heap.setIfInBounds b (.map es clock))[c]? = _; rw [g2 c hcb]; exact hl _ _ hc⟩
theorem Sd.makeMap {t:TypeId}:Sd P n ⟨dst,.makeMap t none,ty,pos,aft,g⟩ fr (Sat w0 G) (fun b:Nat=>.map (some b)) (fun b=>Sat w0 (G ++ [mapCh b mNil])):=fun a w k s=>by
 have:(execOp a.eval ⟨dst,.makeMap t none,ty,pos,aft,g⟩).run P w = .ok (.value (.map (some w.heap.size))) (w.alloc (.map #[] 0)):=by
  simp [execOp,Instr.makeMap]
 rw [this]
 refine ⟨w.heap.size,rfl,s.new (Ext.alloc w _) _ (fun b=>if b = w.heap.size then some (.map #[] 0) else none) ⟨#[],0,[],by simp,rfl,by simp,fun k=>rfl⟩ (fun b o hb=>?_) (fun b o hb=>?_)⟩
 ·dsimp only at hb
  split at hb
  ·rename_i hb'; subst hb'; cases hb
   exact (heap_alloc w _).1
  ·cases hb
 ·split at hb
  ·omega
  ·cases hb
theorem Qt.lookup2 (k:Nat) {t:TypeId} {x y:Operand} {b:Nat} {m:Int→Option Int} {i:Int} (ht:mpTy P t = true) (hx:ev fr x = some (.map (some b))) (hy:ev fr y = some (.int .i64 i)) (hk:G[k]? = some (mapCh b m)) :
  Qt P n ⟨dst,.lookup t x y true,ty,pos,aft,g⟩ fr (Sat w0 G) (.tuple #[.int .i64 ((m i).getD 0),.bool (m i).isSome]):=fun a w kn s=>by
 obtain ⟨kt,et,u1,u2,inf,u3,u4⟩:=mpTy_spec ht
 obtain ⟨es,clock,L,e1,e2,e3,e4⟩:=s.getMap hk
 have hck:(Instr.checkKey es.isEmpty 10000 kt (.int .i64 i)).run P w = .ok () w:=Go.MapKept.run_checkKey u2 (by simp [IsKey]) _ _
 rcases findNow_in i es.toList L 0 e2 with ⟨f1,f2⟩ | ⟨j,v,f0,f1,f2⟩
 ·have hr:(execOp a.eval ⟨dst,.lookup t x y true,ty,pos,aft,g⟩).run P w = .ok (.value (.tuple #[.int .i64 0,.bool false])) w:=by
   simp [execOp,kn.ev hx,kn.ev hy,Instr.lookup,run_underlying u1,Go.MapKept.run_getObj_map e1,hck,Go.MapKept.run_findKey u2 f2,zeroValue,typeInfo,u3,u4,Result.andThen]
  rw [hr,e4 i,f1]; exact ⟨Ext.refl w,rfl⟩
 ·have hr:(execOp a.eval ⟨dst,.lookup t x y true,ty,pos,aft,g⟩).run P w = .ok (.value (.tuple #[.int .i64 v,.bool true])) w:=by
   simp [execOp,kn.ev hx,kn.ev hy,Instr.lookup,run_underlying u1,Go.MapKept.run_getObj_map e1,hck,Go.MapKept.run_findKey u2 f2,Result.andThen]
  rw [hr,e4 i,f1]; exact ⟨Ext.refl w,rfl⟩
theorem Sd.mapUpdate (k:Nat) {t:TypeId} {x y z:Operand} {b:Nat} {m:Int→Option Int} {i v:Int} (ht:mpTy P t = true) (hx:ev fr x = some (.map (some b))) (hy:ev fr y = some (.int .i64 i)) (hz:ev fr z = some (.int .i64 v)) (hk:G[k]? = some (mapCh b m)) :
  Sd P n ⟨none,.mapUpdate t x y z,ty,pos,aft,g⟩ fr (Sat w0 G) (fun _:Unit=>undef) (fun _=>Sat w0 (G.set k (mapCh b (mPut m i v)))):=fun a w kn s=>by
 obtain ⟨kt,et,u1,u2,inf,u3,u4⟩:=mpTy_spec ht
 obtain ⟨es,clock,L,e1,e2,e3,e4⟩:=s.getMap hk
 have hck:(Instr.checkKey false 10000 kt (.int .i64 i)).run P w = .ok () w:=Go.MapKept.run_checkKey u2 (by simp [IsKey]) _ _
 rcases findNow_in i es.toList L 0 e2 with ⟨f1,f2⟩ | ⟨j,u,f0,f1,f2⟩
 ·have hr:(execOp a.eval ⟨none,.mapUpdate t x y z,ty,pos,aft,g⟩).run P w = .ok .skip { w with heap:=w.heap.setIfInBounds b (.map (es.push { key:=.int .i64 i,val:=.int .i64 v,born:=clock }) (clock + 1)) }:=by
   simp [execOp,kn.ev hx,kn.ev hy,kn.ev hz,Instr.mapUpdate,run_underlying u1,Go.MapKept.run_getObj_map e1,hck,Go.MapKept.run_findKey u2 f2,Result.andThen,Go.MapKept.run_setObj_map _ e1]
  rw [hr]
  exact ⟨(),rfl,s.setMap hk (L:=L ++ [(i,v)]) (by simp [kvs] at e2 ⊢; exact e2) (nodup_push f1 e3) (fun q=>by rw [lookup_push f1]; simp only [mPut,e4])⟩
 ·have hje:∃ e,es[j]? = some e∧e.key = .int .i64 i:=by
   have h1:(es.toList.map (fun e=>(e.key,e.val)))[j]? = some (.int .i64 i,.int .i64 u):=by rw [e2]; simp [kvs,f0]
   rw [List.getElem?_map] at h1
   obtain ⟨e,he,hq⟩:=Option.map_eq_some_iff.1 h1
   exact ⟨e,by simpa using he,(Prod.mk.inj hq).1⟩
  obtain ⟨e,he,hek⟩:=hje
  rw [Nat.zero_add] at f2
  have hkey:((es[j]?).map (·.key)).getD (.int .i64 i) = .int .i64 i:=by rw [he]; simp [hek]
  have hst:(Instr.keyThatStays (.int .i64 i) (.int .i64 i)).run P w = .ok (.int .i64 i) w:=by
   simp [Instr.keyThatStays,Instr.sameBits]
  have hr:(execOp a.eval ⟨none,.mapUpdate t x y z,ty,pos,aft,g⟩).run P w = .ok .skip { w with heap:=w.heap.setIfInBounds b (.map (es.modify j fun e=>{ e with key:=.int .i64 i,val:=.int .i64 v }) clock) }:=by
   simp only [execOp,kn.ev hx,kn.ev hy,kn.ev hz,Instr.mapUpdate,Sem.run_bind,run_underlying u1,Go.MapKept.run_getObj_map e1,hck,Go.MapKept.run_findKey u2 f2,Result.andThen,hkey,hst,Go.MapKept.run_setObj_map _ e1,Sem.run_pure]
  rw [hr]
  refine ⟨(),rfl,s.setMap hk (L:=L.set j (i,v)) ?_ (nodup_set f0 e3) (fun q=>by rw [lookup_set f0 e3]; simp only [mPut,e4])⟩
  refine List.ext_getElem? fun q=>?_
  have h1:(es.toList.map (fun e=>(e.key,e.val)))[q]? = (kvs L)[q]?:=by rw [e2]
  simp only [Array.toList_modify,List.getElem?_map,List.getElem?_modify,kvs,List.getElem?_set] at h1 ⊢
  have hl:=congrArg List.length e2
  simp only [List.length_map,kvs,Array.length_toList] at hl
  by_cases hq:j = q
  ·subst hq
   have hlt:j < L.length:=(List.getElem?_eq_some_iff.1 f0).1
   simp [he,hlt]
  ·simp only [if_neg hq,h1]
   cases hqq:es.toList[q]? with
   | none=>rw [hqq] at h1; simpa using h1
   | some e'=>rw [hqq] at h1; simpa using h1
theorem mapErase {α β:Type} (f:α→β):∀ (l:List α) (j:Nat),(l.eraseIdx j).map f = (l.map f).eraseIdx j
 | [],j=>rfl
 | a :: l,0=>rfl
 | a :: l,j + 1=>by simp [mapErase f l j]
theorem Sd.mapDelete (k:Nat) {t kt':TypeId} {x y:Operand} {b:Nat} {m:Int→Option Int} {i:Int} (ht:mpTy P t = true) (hx:ev fr x = some (.map (some b))) (hy:ev fr y = some (.int .i64 i)) (hk:G[k]? = some (mapCh b m)) :
  Sd P n ⟨none,.call { callee:=.builtin .delete,args:=#[x,y],argTypes:=#[t,kt'] },ty,pos,aft,g⟩ fr (Sat w0 G) (fun _:Unit=>.tuple #[]) (fun _=>Sat w0 (G.set k (mapCh b (mDel m i)))):=fun a w kn s=>by
 obtain ⟨kt,et,u1,u2,inf,u3,u4⟩:=mpTy_spec ht
 obtain ⟨es,clock,L,e1,e2,e3,e4⟩:=s.getMap hk
 have hck:(Instr.checkKey es.isEmpty 10000 kt (.int .i64 i)).run P w = .ok () w:=Go.MapKept.run_checkKey u2 (by simp [IsKey]) _ _
 rcases findNow_in i es.toList L 0 e2 with ⟨f1,f2⟩ | ⟨j,u,f0,f1,f2⟩
 ·have hr:(execOp a.eval ⟨none,.call { callee:=.builtin .delete,args:=#[x,y],argTypes:=#[t,kt'] },ty,pos,aft,g⟩).run P w = .ok (.value (.tuple #[])) { w with heap:=w.heap.setIfInBounds b (.map es clock) }:=by
   simp [execOp,kn.ev hx,kn.ev hy,resolve,invoke,builtin,Builtin.delete_,run_underlying u1,Go.MapKept.run_getObj_map e1,hck,Go.MapKept.run_findKey u2 f2,Result.andThen,Go.MapKept.run_setObj_map _ e1]
  rw [hr]
  exact ⟨(),rfl,s.setMap hk e2 e3 (fun q=>by
   unfold mDel
   split
   ·rename_i hq; subst hq; exact f1.symm
   ·exact e4 q)⟩
 ·rw [Nat.zero_add] at f2
  have hr:(execOp a.eval ⟨none,.call { callee:=.builtin .delete,args:=#[x,y],argTypes:=#[t,kt'] },ty,pos,aft,g⟩).run P w = .ok (.value (.tuple #[])) { w with heap:=w.heap.setIfInBounds b (.map (es.eraseIdxIfInBounds j) clock) }:=by
   simp [execOp,kn.ev hx,kn.ev hy,resolve,invoke,builtin,Builtin.delete_,run_underlying u1,Go.MapKept.run_getObj_map e1,hck,Go.MapKept.run_findKey u2 f2,Result.andThen,Go.MapKept.run_setObj_map _ e1]
  rw [hr]
  have hl:=congrArg List.length e2
  simp only [List.length_map,kvs,Array.length_toList] at hl
  have hlt:j < es.size:=by rw [hl]; exact (List.getElem?_eq_some_iff.1 f0).1
  refine ⟨(),rfl,s.setMap hk (L:=L.eraseIdx j) ?_ ?_ (fun q=>by rw [lookup_erase f0 e3]; simp only [mDel,e4])⟩
  ·rw [show (es.eraseIdxIfInBounds j).toList = es.toList.eraseIdx j by simp [Array.eraseIdxIfInBounds,hlt]]
   rw [mapErase,e2]
   exact (mapErase _ L j).symm
  ·rw [mapErase]
   exact (List.eraseIdx_sublist _ _).nodup e3
theorem Sd.mapClear (k:Nat) {t:TypeId} {x:Operand} {b:Nat} {m:Int→Option Int} (ht:mpTy P t = true) (hx:ev fr x = some (.map (some b))) (hk:G[k]? = some (mapCh b m)) :
  Sd P n ⟨none,.call { callee:=.builtin .clear,args:=#[x],argTypes:=#[t] },ty,pos,aft,g⟩ fr (Sat w0 G) (fun _:Unit=>.tuple #[]) (fun _=>Sat w0 (G.set k (mapCh b mNil))):=fun a w kn s=>by
 obtain ⟨kt,et,u1,u2,inf,u3,u4⟩:=mpTy_spec ht
 obtain ⟨es,clock,L,e1,e2,e3,e4⟩:=s.getMap hk
 have hr:(execOp a.eval ⟨none,.call { callee:=.builtin .clear,args:=#[x],argTypes:=#[t] },ty,pos,aft,g⟩).run P w = .ok (.value (.tuple #[])) { w with heap:=w.heap.setIfInBounds b (.map #[] clock) }:=by
  simp [execOp,kn.ev hx,resolve,invoke,builtin,Builtin.clear_,run_underlying u1,Go.MapKept.run_getObj_map e1,Result.andThen,Go.MapKept.run_setObj_map _ e1]
 rw [hr]
 exact ⟨(),rfl,s.setMap hk (L:=[]) rfl (by simp) (fun q=>rfl)⟩

theorem setCell_row {w:World} {b o:Nat} {cs:List Value} {e:TypeId} {v:Value} (hb:w.heap[b]? = some (.cells cs.toArray e (0,0))):w.setCell ⟨b,o,none⟩ v = w.setRow b (cs.set o v).toArray:=by
 unfold World.setCell World.setRow
 congr 1
 refine Array.ext_getElem? fun i=>?_
 rw [Array.getElem?_modify,Array.getElem?_modify]
 by_cases hi:b = i
 ·subst hi
  rw [hb]; simp
 ·simp [hi]
theorem frozen0 {w:World} {b o:Nat} {cs:Array Value} {e:TypeId} (hb:w.heap[b]? = some (.cells cs e (0,0))):w.frozen? ⟨b,o,none⟩ = false:=by simp [World.frozen?,hb]
def isAdd (fn:Func):Prop:=(fn.name == "runtime.NumGoroutine") = false∧fn.body.isNone = true∧Extern.findNext fn = none∧Extern.find fn = some (Extern.Atomic.update (Op.intArith .add) .i64 true)
theorem run_callF {f:FuncId} {xs:List Operand} {ts:Array TypeId} {vs:List Value} (hx:evs fr xs = some vs) {a:Act} (k:Knows n fr a) (w:World) :
  (execOp a.eval ⟨dst,.call { callee:=.value (.func f),args:=xs.toArray,argTypes:=ts },ty,pos,aft,g⟩).run P w = (callFunc f vs.toArray).run P w:=by
 have:=k.evs hx
 simp [execOp,resolve,Act.eval,Deferred.ofValue,invoke,this]
theorem Sd.extAdd (k:Nat) {f:FuncId} {fn:Func} {x y:Operand} {ts:Array TypeId} {b o:Nat} {cs:List Value} {e:TypeId} {u d:Int} (hf:P.funcs[f]? = some fn) (ha:isAdd fn)
  (hx:ev fr x = some (.pointer (some ⟨b,o,none⟩))) (hy:ev fr y = some (.int .i64 d)) (hk:G[k]? = some (blk b cs e)) (hc:cs[o]? = some (.int .i64 u)) (hd:I64 (u + d)) :
  Sd P n ⟨dst,.call { callee:=.value (.func f),args:=#[x,y],argTypes:=ts },ty,pos,aft,g⟩ fr (Sat w0 G) (fun _:Unit=>.int .i64 (u + d)) (fun _=>Sat w0 (G.set k (blk b (cs.set o (.int .i64 (u + d))) e))):=fun a w kn s=>by
 have hb:=(s.getBlk hk).1
 have hcell:w.cell? ⟨b,o,none⟩ = some (.int .i64 u):=by simp [World.cell?,hb,hc]
 have hs:(Op.intArith .add .i64 u d).run P w = .ok (.int .i64 (u + d)) w:=by
  have:=IntWalk.i64_in (u + d) hd
  simp [Op.intArith,this]
 have hr:(execOp a.eval ⟨dst,.call { callee:=.value (.func f),args:=#[x,y],argTypes:=ts },ty,pos,aft,g⟩).run P w = .ok (.value (.int .i64 (u + d))) (w.setRow b (cs.set o (.int .i64 (u + d))).toArray):=by
  have:=run_call_add (P:=P) (f:=f) hf ha.1 ha.2.1 ha.2.2.1 .i64 ha.2.2.2 hcell (frozen0 hb) hs
  rw [setCell_row hb] at this
  exact (run_callF (P:=P) (xs:=[x,y]) (vs:=[_,_]) (by simp only [evs,hx,hy]) kn w).trans this
 rw [hr]
 exact ⟨(),rfl,s.setBlk hk _⟩
end

section
variable {P:Program} {n:Nat} {fr:Fr} {dst:Option Tmp} {ty:TypeId} {pos:String} {aft:Array Edge} {g:Option (Nat × Bool)} {S:As} {w0:World} {G:List Ch}
theorem Sd.callF (k:Nat) {C C':Ch} {f:FuncId} {xs:List Operand} {ts:Array TypeId} {vs:List Value} (he:Ent P f) (hx:evs fr xs = some vs) (hk:G[k]? = some C) {ι:Type} {val:ι→Value} {D:ι→List Ch}
  (hc:∀ w,Sat w0 [C,restOf G k] w→Calls P f vs.toArray w (fun e w'=>∃ i,e = .returned (val i)∧Sat w0 ([C',restOf G k] ++ D i) w')) :
  Sd P n ⟨dst,.call { callee:=.value (.func f),args:=xs.toArray,argTypes:=ts },ty,pos,aft,g⟩ fr (Sat w0 G) val (fun i=>Sat w0 (G.set k C' ++ D i)) :=
 Sd.call he hx fun w s=>(hc w (s.focus hk)).mono fun e w' ⟨i,h1,h2⟩=>⟨i,h1,Sat.unfocus (List.getElem?_eq_some_iff.1 hk).1 h2⟩
theorem Sd.callF0 (k:Nat) {C C':Ch} {v:Value} {f:FuncId} {xs:List Operand} {ts:Array TypeId} {vs:List Value} (he:Ent P f) (hx:evs fr xs = some vs) (hk:G[k]? = some C)
  (hc:∀ w,Sat w0 [C,restOf G k] w→Calls P f vs.toArray w (fun e w'=>e = .returned v∧Sat w0 [C',restOf G k] w')) :
  Sd P n ⟨dst,.call { callee:=.value (.func f),args:=xs.toArray,argTypes:=ts },ty,pos,aft,g⟩ fr (Sat w0 G) (fun _:Unit=>v) (fun _=>Sat w0 (G.set k C')) :=
 Sd.call he hx fun w s=>(hc w (s.focus hk)).mono fun e w' ⟨h1,h2⟩=>⟨(),h1,by
  have:=Sat.unfocus (D:=[]) (List.getElem?_eq_some_iff.1 hk).1 (by simpa using h2)
  simpa using this⟩
end
def optA {α:Type} (g:Nat):Option α→Option Addr
  | none=>none
  | some _=>some ⟨g,0,none⟩
def optCh {α:Type} (C:Nat→α→Ch) (g:Nat):Option α→Ch
  | none=>dead
  | some x=>C g x
theorem Sat.optSome {α:Type} {w0 w:World} {G:List Ch} {C:Nat→α→Ch} {g:Nat} {x:α} (k:Nat) (hk:G[k]? = some (optCh C g (some x))) (h:Sat w0 G w):Sat w0 (G.set k (C g x)) w:=by
 have:G.set k (C g x) = G:=by
  obtain ⟨hl,he⟩:=List.getElem?_eq_some_iff.1 hk
  show G.set k (optCh C g (some x)) = G
  exact he ▸ List.set_getElem_self hl
 rw [this]; exact h
theorem optA_none {α:Type} {g:Nat} {o:Option α}:(optA g o).isNone = o.isNone:=by cases o <;> rfl
section
variable {P:Program} {n:Nat} {fr:Fr} {dst:Option Tmp} {ty:TypeId} {pos:String} {aft:Array Edge} {g:Option (Nat × Bool)}
theorem Pu.eqNilO {α:Type} {xt yt e:TypeId} {x:Operand} {b:Nat} {o:Option α} (ht:P.underlying xt = some (.pointer e)) (hx:ev fr x = some (.pointer (optA b o))) :
  Pu P n ⟨dst,.binOp .eql xt x (.const (.pointer none)) yt,ty,pos,aft,g⟩ fr (.bool o.isNone):=by
 have:=Pu.eqNil (P:=P) (n:=n) (dst:=dst) (ty:=ty) (pos:=pos) (aft:=aft) (g:=g) (yt:=yt) ht hx
 rwa [optA_none] at this
end

theorem Rd.drop {α:Type} [Enc α] {S:As} {xs:List α} {p:Option Addr} {len cap sz:Nat} (h:Rd S xs [.slice p len cap]) {k:Nat} (hk:k ≤ xs.length) (hsz:sz = Enc.sz α):Rd S (xs.drop k) [.slice (cutP p cap k sz) (len - k) (cap - k)]:=by
 subst hsz; exact fun w s=>drop_reads (h w s) hk
theorem row_take2 {α:Type} [Enc α] {B:Hp} {e:TypeId} {q:Option Nat × Nat} {m k:Nat} {xs:List α} {p:Hp} (h:row B e (rowV q m) xs p) (hk:k ≤ xs.length):row B e (rowV q k) (xs.take k) p:=by
 obtain ⟨o,c⟩:=q
 cases o with
 | some g=>exact row_take h hk rfl
 | none =>
  rcases h with ⟨hv,rfl⟩ | ⟨g,cap,cs,sp,hv,_⟩
  ·simp [rowV] at hv hk
   obtain ⟨rfl,rfl⟩:=hv
   subst hk
   exact .inl ⟨rfl,rfl⟩
  ·simp [rowV] at hv
theorem Sat.cutRow {α:Type} [Enc α] {w0 w:World} {G:List Ch} {B:Hp} {e:TypeId} {q:Option Nat × Nat} {m:Nat} {xs:List α} (k:Nat) (j:Nat) (hk:G[k]? = some (row B e (rowV q m) xs)) (hj:j ≤ xs.length) (h:Sat w0 G w) :
  Sat w0 (G.set k (row B e (rowV q j) (xs.take j))) w:=h.weaken k hk _ fun p hp=>row_take2 hp hj
theorem le_nat {j:Int} {n:Nat} (h:0 ≤ j∧j ≤ (n:Int)):j.toNat ≤ n:=by omega
theorem le_cap {j:Int} {n c:Nat} (h:0 ≤ j∧j ≤ (n:Int)) (hc:n ≤ c):0 ≤ j∧j ≤ (c:Int):=by omega
section
variable {P:Program} {n:Nat} {fr:Fr} {dst:Option Tmp} {ty:TypeId} {pos:String} {aft:Array Edge} {g:Option (Nat × Bool)} {S:As} {w0:World} {G:List Ch}
theorem Sd.appR {α:Type} [Enc α] [Flat α] (k:Nat) {B:Hp} (hB:∀ b o,B b = some o→b < w0.heap.size) {x y:Operand} {t e:TypeId} {by':Nat} {z v vy:Value} {xs ys:List α} (hk:G[k]? = some (row B e v xs))
  (ht:slTy P t = some (e,Enc.sz α,by')) (hz:zeroOf P e = some z) (hzs:z.cells.size = Enc.sz α) (hx:ev fr x = some v) (hy:ev fr y = some vy) (hR:Rd (Sat w0 G) ys [vy])
  (hlt:xs.length + ys.length < 1099511627776) (hby:by' ≤ 128) :
  Sd P n ⟨dst,.call { callee:=.builtin .append,args:=#[x,y],argTypes:=#[t,t] },ty,pos,aft,g⟩ fr (Sat w0 G) (fun q=>rowV q (xs ++ ys).length) (fun q=>Sat w0 (G.set k (row B e (rowV q (xs ++ ys).length) (xs ++ ys)))):=fun a w kn s=>by
 have hbytes:(xs.length + ys.length) * by' ≤ 140737488355328:=by
  have:=Nat.mul_le_mul (show xs.length + ys.length ≤ 1099511627776 by omega) hby; omega
 have h63:xs.length + ys.length ≤ maxLen:=by unfold maxLen; omega
 obtain ⟨p',cap',e',s1,s2,s3⟩:=hR w s
 simp only [List.cons.injEq,and_true] at e'
 subst e'
 have fin:∀ v' w',(Builtin.append_ #[t,t] ty #[v,.slice p' ys.length cap']).run P w = .ok v' w'→Sat w0 (G.set k (row B e v' (xs ++ ys))) w' →
   solidRes P (fun q=>rowV q (xs ++ ys).length) (fun q=>Sat w0 (G.set k (row B e (rowV q (xs ++ ys).length) (xs ++ ys)))) ((execOp a.eval ⟨dst,.call { callee:=.builtin .append,args:=#[x,y],argTypes:=#[t,t] },ty,pos,aft,g⟩).run P w):=fun v' w' hr hs=>by
  rw [run_builtin_append kn hx hy hr]
  have hkl:k < (G.set k (row B e v' (xs ++ ys))).length:=by simpa using (List.getElem?_eq_some_iff.1 hk).1
  obtain ⟨p,hp,_⟩:=hs.get k (List.getElem?_set_self (by simpa using hkl))
  obtain ⟨q',hq⟩:=row_shape hp
  exact ⟨q',hq,by show Sat w0 (G.set k (row B e (rowV q' (xs ++ ys).length) (xs ++ ys))) w'; rw [show rowV q' (xs ++ ys).length = v' from hq.symm]; exact hs⟩
 cases p' with
 | none =>
  have hnil:ys = []:=by
   rcases s3 with h | ⟨b,o,cs,hq,_⟩
   ·exact h
   ·cases hq
  subst hnil
  obtain ⟨p,hp,_⟩:=s.get k hk
  obtain ⟨q',hq⟩:=row_shape hp
  obtain ⟨hu,i,hi,_,_⟩:=slTy_spec ht
  have hlc:xs.length ≤ q'.2:=by
   have h2:=s.row_fits (k:=k) (B:=B) (e:=e) (xs:=xs) (q:=q') (m:=xs.length) (by rw [hk,hq]; rfl)
   exact h2.2.1
  refine fin v w ?_ (by
   have e1:G.set k (row B e v (xs ++ [])) = G:=by
    rw [List.append_nil]
    obtain ⟨hl,he⟩:=List.getElem?_eq_some_iff.1 hk
    exact he ▸ List.set_getElem_self hl
   rw [e1]; exact s)
  subst hq
  obtain ⟨o,c⟩:=q'
  have hlc':xs.length ≤ c:=hlc
  cases o <;> simp [Builtin.append_,run_underlying hu,sizeOf,typeInfo,hi,Builtin.lenOf,Builtin.firstCells,storeCells,hlc']
 | some q =>
  rcases s3 with rfl | ⟨b,o,cs,hq,hr,ha⟩
  ·obtain ⟨v',w',hr',hs⟩:=s.append (ty:=ty) hk ht hz hzs hB (rowAnd_flat (h0:=nilH) (ys:=[]) (news:=[]) (by simp [RF])) (q:=q) (c:=cap') rfl (by simp) hbytes h63
   exact fin v' w' hr' hs
  ·cases hq
   obtain ⟨v',w',hr',hs⟩:=s.append (ty:=ty) hk ht hz hzs hB (rowAnd_flat hr) (q:=⟨b,o,none⟩) (c:=cap') rfl (fun j u hj=>by rw [add_lit]; exact ha.cell hj) hbytes h63
   exact fin v' w' hr' hs
end
section
variable {P:Program} {n:Nat} {fr:Fr} {dst:Option Tmp} {ty:TypeId} {pos:String} {aft:Array Edge} {g:Option (Nat × Bool)} {S:As} {w0:World} {G:List Ch}
theorem Sd.callM (k:Nat) {C:Ch} {f:FuncId} {xs:List Operand} {ts:Array TypeId} {vs:List Value} (he:Ent P f) (hx:evs fr xs = some vs) (hk:G[k]? = some C) {ι:Type} {val:ι→Value} {C':ι→Ch}
  (hc:∀ w,Sat w0 [C,restOf G k] w→Calls P f vs.toArray w (fun e w'=>∃ i,e = .returned (val i)∧Sat w0 [C' i,restOf G k] w')) :
  Sd P n ⟨dst,.call { callee:=.value (.func f),args:=xs.toArray,argTypes:=ts },ty,pos,aft,g⟩ fr (Sat w0 G) val (fun i=>Sat w0 (G.set k (C' i))) :=
 Sd.call he hx fun w s=>(hc w (s.focus hk)).mono fun e w' ⟨i,h1,h2⟩=>⟨i,h1,by
  have:=Sat.unfocus (D:=[]) (List.getElem?_eq_some_iff.1 hk).1 (by simpa using h2)
  simpa using this⟩
end
end Go.Vg
