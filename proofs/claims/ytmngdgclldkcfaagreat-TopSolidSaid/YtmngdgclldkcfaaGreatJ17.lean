/-
  Texts of one's own, joined: XA YA.
-/
import Derived.Test.YtmngdgclldkcfaaGreatJ4
import Derived.Test.YtmngdgclldkcfaaGreatJ14
import Derived.DeepKeys3
import Derived.WideKeyRuns
import Derived.Maps.RangeRun
import Derived.Test.YtmngdgclldkcfaaGreatRows
import Derived.Test.YtmngdgclldkcfaaGreatJ6
import Derived.Test.YtmngdgclldkcfaaGreatJ7
import Derived.Test.YtmngdgclldkcfaaGreatJ16
set_option linter.unusedVariables false
set_option linter.unusedSimpArgs false
set_option linter.unusedSectionVars false
namespace Go.Vg
open Go Go.MapKept
open Classical
def mapE (b:Nat) (L:List (Value × Value)):Ch:=fun h=>∃ es clock,h b = some (.map es clock)∧es.toList.map (fun e=>(e.key,e.val)) = L∧∀ e ∈ es.toList,e.born < clock
structure KeyT (P:Program) (kt:TypeId) (K:Value→Prop):Prop where
  ck:∀ em k w,K k→(Instr.checkKey em 10000 kt k).run P w = .ok () w
  eq:∀ k e w,K k→K e.key→(Instr.findKey kt k [e]).run P w = .ok (if k = e.key then some (0,e.val) else none) w
def IntK (v:Value):Prop:=∃ i:Int,v = .int .i64 i
def TwoK (v:Value):Prop:=∃ x y:Int,v = .agg #[.int .i64 x,.int .i64 y]
section
variable {P:Program} {kt:TypeId} {K:Value→Prop}
theorem KeyT.nil (h:KeyT P kt K) {d:TypeDesc} (hd:P.underlying kt = some d) (k:Value) (w:World):(Instr.findKey kt k []).run P w = .ok none w:=by
 simp [Instr.findKey,run_underlying hd,Result.andThen,Instr.findNow]
theorem KeyT.int (h:P.underlying kt = some (.int .i64)):KeyT P kt IntK:=by
 refine ⟨fun em k w ⟨i,hk⟩=>?_,fun k e w ⟨i,hk⟩ ⟨j,he⟩=>?_⟩
 ·rw [hk]; exact Go.MapKept.run_checkKey h (by simp [IsKey]) _ _
 ·have hf:Instr.findNow (.int .i64) k [e] 0 = some (if k = e.key then some (0,e.val) else none):=by
   simp only [Instr.findNow,hk,he,Instr.sameNow,if_true]
   by_cases c:i = j
   ·subst c; simp
   ·have:(i == j) = false:=by simp [c]
    simp [this,c]
  exact Go.MapKept.run_findKey h hf
def twoTy (P:Program) (t:TypeId):Bool:=(match P.underlying t with
  | some (.struct fs)=>match fs.toList with
    | [f,g]=>f.name != "_" && g.name != "_" && f.offset == 0 && g.offset == 1 && (match P.underlying f.type,P.underlying g.type with | some (.int .i64),some (.int .i64)=>true | _,_=>false) && tySz P f.type == some (1,false) && tySz P g.type == some (1,false)
    | _=>false
  | _=>false) && eqTy2 P t == some [(0,none),(1,none)]
theorem KeyT.two (h:twoTy P kt = true):KeyT P kt TwoK:=by
 unfold twoTy at h
 rw [Bool.and_eq_true,beq_iff_eq] at h
 obtain ⟨h1,h2⟩:=h
 split at h1
 ·rename_i fs hu
  split at h1
  ·rename_i f g hfs
   simp only [Bool.and_eq_true,bne_iff_ne,beq_iff_eq] at h1
   obtain ⟨⟨⟨⟨⟨⟨n1,n2⟩,o1⟩,o2⟩,hi⟩,s1⟩,s2⟩:=h1
   split at hi
   ·rename_i u1 u2
    refine ⟨fun em k w ⟨x,y,hk⟩=>?_,fun k e w ⟨x,y,hk⟩ ⟨x',y',he⟩=>?_⟩
    ·have hfs':fs = #[f,g]:=by cases fs; simp_all
     have p1:(part f.type #[.int .i64 x,.int .i64 y] f.offset).run P w = .ok (.int .i64 x) w:=by simp [part,run_isAgg_of s1,o1]
     have p2:(part g.type #[.int .i64 x,.int .i64 y] g.offset).run P w = .ok (.int .i64 y) w:=by simp [part,run_isAgg_of s2,o2]
     have c1:(Instr.checkKey em 9999 f.type (.int .i64 x)).run P w = .ok () w:=by unfold Instr.checkKey; simp [run_underlying u1,Result.andThen]
     have c2:(Instr.checkKey em 9999 g.type (.int .i64 y)).run P w = .ok () w:=by unfold Instr.checkKey; simp [run_underlying u2,Result.andThen]
     rw [hk]
     unfold Instr.checkKey
     simp [run_underlying hu,Result.andThen,hfs',n1,n2,p1,p2,c1,c2]
    ·have hw:(match P.underlying kt with | some (.array _ _) | some (.struct _)=>true | _=>false) = true:=by rw [hu]
     rw [run_findKey_eq w hw]
     have hq:=eqTy2_run (P:=P) (xs:=[.int .i64 x,.int .i64 y]) (ys:=[.int .i64 x',.int .i64 y']) h2 (r:=(x == x') && ((y == y') && true)) (by simp [eqAt2]) w
     have he2:(Op.equal kt k e.key).run P w = .ok ((x == x') && ((y == y') && true)) w:=by
      rw [hk,he]
      exact hq.2
     simp only [Instr.findAsking,Sem.run_bind,he2,Result.andThen_ok]
     by_cases c:k = e.key
     ·rw [if_pos c]
      rw [hk,he] at c
      injection c with c
      simp at c
      simp [c.1,c.2]
     ·rw [if_neg c]
      have:((x == x') && ((y == y') && true)) = false:=by
       rw [Bool.eq_false_iff]
       intro hq
       simp at hq
       exact c (by rw [hk,he,hq.1,hq.2])
      rw [this]; rfl
   ·cases hi
  ·cases h1
 ·cases h1
end
section
variable {P:Program} {n:Nat} {fr:Fr} {dst:Option Tmp} {ty:TypeId} {pos:String} {aft:Array Edge} {g:Option (Nat × Bool)} {S:As} {w0:World} {G:List Ch}
theorem Sat.getMapE {w:World} {k b:Nat} {L:List (Value × Value)} (h:Sat w0 G w) (hk:G[k]? = some (mapE b L)) :
  ∃ es clock,w.heap[b]? = some (.map es clock)∧es.toList.map (fun e=>(e.key,e.val)) = L∧∀ e ∈ es.toList,e.born < clock:=by
 obtain ⟨p,⟨es,clock,h1,h2⟩,hl,_⟩:=h.get k hk
 exact ⟨es,clock,hl _ _ h1,h2⟩
theorem Sat.setMapE {w:World} {k b:Nat} {L L':List (Value × Value)} (s:Sat w0 G w) (hk:G[k]? = some (mapE b L)) {es:Array MapEntry} {clock:Nat}
  (h2:es.toList.map (fun e=>(e.key,e.val)) = L') (h3:∀ e ∈ es.toList,e.born < clock):Sat w0 (G.set k (mapE b L')) { w with heap:=w.heap.setIfInBounds b (.map es clock) }:=by
 refine s.turn k hk _ rfl rfl rfl (by simp) fun p hp hl hb=>?_
 obtain ⟨es0,c0,e0,_⟩:=hp
 have hbw:=hl _ _ e0
 obtain ⟨g1,g2⟩:=heap_set (o':=.map es clock) (show w.heap[b]? = some _ from hbw)
 refine ⟨fun c hc hn=>g2 c (fun e'=>by rw [e',e0] at hn; cases hn),fun c=>if c = b then some (.map es clock) else p c,⟨es,clock,by simp,h2,h3⟩,fun c o hc=>?_⟩
 dsimp only at hc
 split at hc
 ·rename_i hcb; subst hcb; cases hc
  exact ⟨.inl (by rw [e0]; simp),g1⟩
 ·rename_i hcb
  exact ⟨.inl (by rw [hc]; simp),by show (w.heap.setIfInBounds b (.map es clock))[c]? = _; rw [g2 c hcb]; exact hl _ _ hc⟩
theorem Sd.makeMapE {t:TypeId}:Sd P n ⟨dst,.makeMap t none,ty,pos,aft,g⟩ fr (Sat w0 G) (fun b:Nat=>.map (some b)) (fun b=>Sat w0 (G ++ [mapE b []])):=fun a w k s=>by
 have:(execOp a.eval ⟨dst,.makeMap t none,ty,pos,aft,g⟩).run P w = .ok (.value (.map (some w.heap.size))) (w.alloc (.map #[] 0)):=by
  simp [execOp,Instr.makeMap]
 rw [this]
 refine ⟨w.heap.size,rfl,s.new (Ext.alloc w _) _ (fun b=>if b = w.heap.size then some (.map #[] 0) else none) ⟨#[],0,by simp,rfl,by simp⟩ (fun b o hb=>?_) (fun b o hb=>?_)⟩
 ·dsimp only at hb
  split at hb
  ·rename_i hb'; subst hb'; cases hb
   exact (heap_alloc w _).1
  ·cases hb
 ·split at hb
  ·omega
  ·cases hb
def mpT (P:Program) (t:TypeId) (kt:TypeId) (z:Value):Prop:=∃ e i d,P.underlying t = some (.map kt e)∧P.underlying kt = some d∧P.info? e = some i∧i.zero = some z
noncomputable def at1 (L:List (Value × Value)) (k:Value):Option Value:=match L with
  | []=>none
  | (a,v) :: _=>if k = a then some v else none
theorem findE {kt:TypeId} {K:Value→Prop} (hK:KeyT P kt K) {d:TypeDesc} (hd:P.underlying kt = some d) {k:Value} (h:K k) {L:List (Value × Value)} (hL:∀ e ∈ L,K e.1) (h1:L.length ≤ 1) {es:Array MapEntry} (he:es.toList.map (fun e=>(e.key,e.val)) = L) (w:World) :
  (Instr.findKey kt k es.toList).run P w = .ok ((at1 L k).map fun v=>(0,v)) w:=by
 cases hes:es.toList with
 | nil=>rw [hes] at he; subst he; exact hK.nil hd k w
 | cons e r =>
  rw [hes] at he
  subst he
  cases r with
  | cons a r=>simp at h1
  | nil =>
   rw [hK.eq k e w h (hL (e.key,e.val) (by simp))]
   simp only [at1,List.map_cons]
   split <;> rfl
theorem Qt.lookupE (i:Nat) {t kt:TypeId} {z:Value} {K:Value→Prop} {x y:Operand} {b:Nat} {L:List (Value × Value)} {k:Value} (ht:mpT P t kt z) (hK:KeyT P kt K) (hx:ev fr x = some (.map (some b))) (hy:ev fr y = some k) (hk:G[i]? = some (mapE b L)) (h:K k) (hL:∀ e ∈ L,K e.1) (h1:L.length ≤ 1) :
  Qt P n ⟨dst,.lookup t x y false,ty,pos,aft,g⟩ fr (Sat w0 G) ((at1 L k).getD z):=fun a w kn s=>by
 obtain ⟨e,inf,d,u1,u2,u3,u4⟩:=ht
 obtain ⟨es,clock,e1,e2,e3⟩:=s.getMapE hk
 have hr:(execOp a.eval ⟨dst,.lookup t x y false,ty,pos,aft,g⟩).run P w = .ok (.value ((at1 L k).getD z)) w:=by
  have hf:=findE hK u2 h hL h1 e2 w
  cases hq:at1 L k with
  | none=>rw [hq] at hf; simp [execOp,kn.ev hx,kn.ev hy,Instr.lookup,run_underlying u1,Go.MapKept.run_getObj_map e1,hK.ck _ _ _ h,hf,zeroValue,typeInfo,u3,u4,Result.andThen]
  | some v=>rw [hq] at hf; simp [execOp,kn.ev hx,kn.ev hy,Instr.lookup,run_underlying u1,Go.MapKept.run_getObj_map e1,hK.ck _ _ _ h,hf,Result.andThen]
 rw [hr]; exact ⟨Ext.refl w,rfl⟩
theorem Qt.lookupE2 (i:Nat) {t kt:TypeId} {z:Value} {K:Value→Prop} {x y:Operand} {b:Nat} {L:List (Value × Value)} {k:Value} (ht:mpT P t kt z) (hK:KeyT P kt K) (hx:ev fr x = some (.map (some b))) (hy:ev fr y = some k) (hk:G[i]? = some (mapE b L)) (h:K k) (hL:∀ e ∈ L,K e.1) (h1:L.length ≤ 1) :
  Qt P n ⟨dst,.lookup t x y true,ty,pos,aft,g⟩ fr (Sat w0 G) (.tuple #[(at1 L k).getD z,.bool (at1 L k).isSome]):=fun a w kn s=>by
 obtain ⟨e,inf,d,u1,u2,u3,u4⟩:=ht
 obtain ⟨es,clock,e1,e2,e3⟩:=s.getMapE hk
 have hr:(execOp a.eval ⟨dst,.lookup t x y true,ty,pos,aft,g⟩).run P w = .ok (.value (.tuple #[(at1 L k).getD z,.bool (at1 L k).isSome])) w:=by
  have hf:=findE hK u2 h hL h1 e2 w
  cases hq:at1 L k with
  | none=>rw [hq] at hf; simp [execOp,kn.ev hx,kn.ev hy,Instr.lookup,run_underlying u1,Go.MapKept.run_getObj_map e1,hK.ck _ _ _ h,hf,zeroValue,typeInfo,u3,u4,Result.andThen]
  | some v=>rw [hq] at hf; simp [execOp,kn.ev hx,kn.ev hy,Instr.lookup,run_underlying u1,Go.MapKept.run_getObj_map e1,hK.ck _ _ _ h,hf,Result.andThen]
 rw [hr]; exact ⟨Ext.refl w,rfl⟩
theorem Qt.lenE (i:Nat) {t kt:TypeId} {z:Value} {x:Operand} {b:Nat} {L:List (Value × Value)} (ht:mpT P t kt z) (hx:ev fr x = some (.map (some b))) (hk:G[i]? = some (mapE b L)) :
  Qt P n ⟨dst,.call { callee:=.builtin .len,args:=#[x],argTypes:=#[t] },ty,pos,aft,g⟩ fr (Sat w0 G) (.int .i64 L.length):=fun a w kn s=>by
 obtain ⟨e,inf,d,u1,u2,u3,u4⟩:=ht
 obtain ⟨es,clock,e1,e2,e3⟩:=s.getMapE hk
 have hl:es.size = L.length:=by rw [← e2]; simp
 have hr:(execOp a.eval ⟨dst,.call { callee:=.builtin .len,args:=#[x],argTypes:=#[t] },ty,pos,aft,g⟩).run P w = .ok (.value (.int .i64 L.length)) w:=by
  simp [execOp,kn.ev hx,resolve,invoke,builtin,Builtin.len_,run_underlying u1,Go.MapKept.run_getObj_map e1,Result.andThen,goInt,hl]
 rw [hr]; exact ⟨Ext.refl w,rfl⟩
theorem Sd.mapFirst (i:Nat) {t kt:TypeId} {z:Value} {K:Value→Prop} {x y u:Operand} {b:Nat} {k v:Value} (ht:mpT P t kt z) (hK:KeyT P kt K) (hx:ev fr x = some (.map (some b))) (hy:ev fr y = some k) (hu:ev fr u = some v) (hk:G[i]? = some (mapE b [])) (h:K k) :
  Sd P n ⟨none,.mapUpdate t x y u,ty,pos,aft,g⟩ fr (Sat w0 G) (fun _:Unit=>undef) (fun _=>Sat w0 (G.set i (mapE b [(k,v)]))):=fun a w kn s=>by
 obtain ⟨e,inf,d,u1,u2,u3,u4⟩:=ht
 obtain ⟨es,clock,e1,e2,e3⟩:=s.getMapE hk
 have hf:=findE hK u2 h (L:=[]) (by simp) (by simp) e2 w
 have hr:(execOp a.eval ⟨none,.mapUpdate t x y u,ty,pos,aft,g⟩).run P w = .ok .skip { w with heap:=w.heap.setIfInBounds b (.map (es.push { key:=k,val:=v,born:=clock }) (clock + 1)) }:=by
  simp [execOp,kn.ev hx,kn.ev hy,kn.ev hu,Instr.mapUpdate,run_underlying u1,Go.MapKept.run_getObj_map e1,hK.ck _ _ _ h,hf,at1,Result.andThen,Go.MapKept.run_setObj_map _ e1]
 rw [hr]
 have he:es.toList = []:=List.map_eq_nil_iff.1 e2
 exact ⟨(),rfl,s.setMapE hk (by simp [he]) (by simp [he])⟩
theorem Sd.mapDel1 (i:Nat) {t kt kt':TypeId} {z:Value} {K:Value→Prop} {x y:Operand} {b:Nat} {k:Value} {L:List (Value × Value)} (ht:mpT P t kt z) (hK:KeyT P kt K) (hx:ev fr x = some (.map (some b))) (hy:ev fr y = some k) (hk:G[i]? = some (mapE b L)) (h:K k) (hL:∀ e ∈ L,e.1 = k) (h1:L.length ≤ 1) :
  Sd P n ⟨none,.call { callee:=.builtin .delete,args:=#[x,y],argTypes:=#[t,kt'] },ty,pos,aft,g⟩ fr (Sat w0 G) (fun _:Unit=>.tuple #[]) (fun _=>Sat w0 (G.set i (mapE b []))):=fun a w kn s=>by
 obtain ⟨e,inf,d,u1,u2,u3,u4⟩:=ht
 obtain ⟨es,clock,e1,e2,e3⟩:=s.getMapE hk
 have hf:=findE hK u2 h (L:=L) (fun e he=>by rw [hL e he]; exact h) h1 e2 w
 cases L with
 | nil =>
  have hr:(execOp a.eval ⟨none,.call { callee:=.builtin .delete,args:=#[x,y],argTypes:=#[t,kt'] },ty,pos,aft,g⟩).run P w = .ok (.value (.tuple #[])) { w with heap:=w.heap.setIfInBounds b (.map es clock) }:=by
   simp [execOp,kn.ev hx,kn.ev hy,resolve,invoke,builtin,Builtin.delete_,run_underlying u1,Go.MapKept.run_getObj_map e1,hK.ck _ _ _ h,hf,at1,Result.andThen,Go.MapKept.run_setObj_map _ e1]
  rw [hr]
  exact ⟨(),rfl,s.setMapE hk e2 e3⟩
 | cons p L =>
  have hL':L = []:=by cases L with | nil=>rfl | cons q L=>simp at h1
  subst hL'
  have hp:p.1 = k:=hL p (by simp)
  have hq:at1 [p] k = some p.2:=by cases p; simp only at hp; subst hp; simp [at1]
  rw [hq] at hf
  have hr:(execOp a.eval ⟨none,.call { callee:=.builtin .delete,args:=#[x,y],argTypes:=#[t,kt'] },ty,pos,aft,g⟩).run P w = .ok (.value (.tuple #[])) { w with heap:=w.heap.setIfInBounds b (.map (es.eraseIdxIfInBounds 0) clock) }:=by
   simp [execOp,kn.ev hx,kn.ev hy,resolve,invoke,builtin,Builtin.delete_,run_underlying u1,Go.MapKept.run_getObj_map e1,hK.ck _ _ _ h,hf,Result.andThen,Go.MapKept.run_setObj_map _ e1]
  rw [hr]
  have hl:=congrArg List.length e2
  simp only [List.length_map,Array.length_toList,List.length_cons,List.length_nil] at hl
  have hz:es.eraseIdxIfInBounds 0 = #[]:=by
   apply Array.eq_empty_of_size_eq_zero
   simp [Array.eraseIdxIfInBounds,hl]
  exact ⟨(),rfl,s.setMapE hk (by rw [hz]; rfl) (by rw [hz]; simp)⟩
def mpTz (P:Program) (t:TypeId):Option (TypeId × Value):=match P.underlying t with
  | some (.map k e)=>if (P.underlying k).isSome then (P.info? e).bind fun i=>i.zero.map fun z=>(k,z) else none
  | _=>none
theorem mpT_of {t kt:TypeId} {z:Value} (h:mpTz P t = some (kt,z)):mpT P t kt z:=by
 unfold mpTz at h
 split at h
 ·rename_i k e hu
  split at h
  ·rename_i hk
   obtain ⟨i,hi,h⟩:=Option.bind_eq_some_iff.1 h
   obtain ⟨z',hz,h⟩:=Option.map_eq_some_iff.1 h
   cases h
   obtain ⟨d,hd⟩:=Option.isSome_iff_exists.1 hk
   exact ⟨e,i,d,hu,hd,hi,hz⟩
  ·cases h
 ·cases h
section
variable (i:Nat) {t kt:TypeId} {z:Value} {K:Value→Prop} {x y:Operand} {b:Nat} {k v:Value}
theorem Qt.nilE (ht:mpT P t kt z) (hK:KeyT P kt K) (hx:ev fr x = some (.map (some b))) (hy:ev fr y = some k) (hk:G[i]? = some (mapE b [])) (h:K k):Qt P n ⟨dst,.lookup t x y false,ty,pos,aft,g⟩ fr (Sat w0 G) z :=
 Qt.lookupE i ht hK hx hy hk h (by simp) (by simp)
theorem Qt.nilE2 (ht:mpT P t kt z) (hK:KeyT P kt K) (hx:ev fr x = some (.map (some b))) (hy:ev fr y = some k) (hk:G[i]? = some (mapE b [])) (h:K k):Qt P n ⟨dst,.lookup t x y true,ty,pos,aft,g⟩ fr (Sat w0 G) (.tuple #[z,.bool false]) :=
 Qt.lookupE2 i ht hK hx hy hk h (by simp) (by simp)
theorem Qt.oneE (ht:mpT P t kt z) (hK:KeyT P kt K) (hx:ev fr x = some (.map (some b))) (hy:ev fr y = some k) (hk:G[i]? = some (mapE b [(k,v)])) (h:K k):Qt P n ⟨dst,.lookup t x y false,ty,pos,aft,g⟩ fr (Sat w0 G) v:=by
 have:=Qt.lookupE (dst:=dst) (ty:=ty) (pos:=pos) (aft:=aft) (g:=g) (n:=n) (w0:=w0) i ht hK hx hy hk h (by simpa using h) (by simp)
 simpa [at1] using this
theorem Qt.oneE2 (ht:mpT P t kt z) (hK:KeyT P kt K) (hx:ev fr x = some (.map (some b))) (hy:ev fr y = some k) (hk:G[i]? = some (mapE b [(k,v)])) (h:K k):Qt P n ⟨dst,.lookup t x y true,ty,pos,aft,g⟩ fr (Sat w0 G) (.tuple #[v,.bool true]):=by
 have:=Qt.lookupE2 (dst:=dst) (ty:=ty) (pos:=pos) (aft:=aft) (g:=g) (n:=n) (w0:=w0) i ht hK hx hy hk h (by simpa using h) (by simp)
 simpa [at1] using this
theorem Sd.delE (ht:mpT P t kt z) (hK:KeyT P kt K) {kt':TypeId} (hx:ev fr x = some (.map (some b))) (hy:ev fr y = some k) (hk:G[i]? = some (mapE b [(k,v)])) (h:K k) :
  Sd P n ⟨none,.call { callee:=.builtin .delete,args:=#[x,y],argTypes:=#[t,kt'] },ty,pos,aft,g⟩ fr (Sat w0 G) (fun _:Unit=>.tuple #[]) (fun _=>Sat w0 (G.set i (mapE b []))) :=
 Sd.mapDel1 i ht hK hx hy hk h (by simp) (by simp)
end
theorem Cont.retC1 {fn:Func} {R:Ending→World→Prop} {t ty b:Nat} {e:TypeId} {v:Value} (k:Nat) (hr:fn.results = #[.cell t ty]) (ht:tySz P ty = some (1,false)) (hv:look fr t = some (.pointer (some ⟨b,0,none⟩)))
  (hk:G[k]? = some (blk b [v] e)) (h:∀ w,Sat w0 G w→R (.returned v) w):Cont n (bodyPost P fn R .ret) fr (Sat w0 G):=fun a w kn s=>by
 have hld:=run_loadVar1 (P:=P) (w:=w) (a:=⟨b,0,none⟩) (v:=v) ht (by
  have:=(s.getBlk hk).1
  simp [World.cell?,this])
 have hp:=kn.getD hv
 refine bodyPost_ret (v:=v) ?_ kn.defers (h w s)
 have hp':a.tmps[t]?.getD undef = .pointer (some ⟨b,0,none⟩):=by simpa [Array.getD_eq_getD_getElem?] using hp
 simp [results,hr,hp',asAddr,hld]
def EsOk (L:List (Value × Value)) (q:Array MapEntry × Nat):Prop:=q.1.toList.map (fun e=>(e.key,e.val)) = L∧∀ e ∈ q.1.toList,e.born < q.2
def mapX (b:Nat) (es:Array MapEntry) (clock:Nat):Ch:=fun h=>h b = some (.map es clock)
def iterX (r b since:Nat) (seen:Array Nat) (c0:Nat):Ch:=fun h=>h r = some (.mapIter (some b) since seen c0)
theorem mapE_ex (b:Nat) (L:List (Value × Value)):mapE b L = exch fun q:{q:Array MapEntry × Nat // EsOk L q}=>mapX b q.1.1 q.1.2:=by
 funext h
 refine propext ⟨fun ⟨es,clock,h1,h2,h3⟩=>⟨⟨(es,clock),h2,h3⟩,h1⟩,fun ⟨q,h1⟩=>⟨q.1.1,q.1.2,h1,q.2.1,q.2.2⟩⟩
theorem Sat.openE {w:World} {b:Nat} {L:List (Value × Value)} (i:Nat) (hk:G[i]? = some (mapE b L)) (s:Sat w0 G w):∃ q:{q:Array MapEntry × Nat // EsOk L q},Sat w0 (G.set i (mapX b q.1.1 q.1.2)) w:=s.exAt i (by rw [hk,mapE_ex])
theorem Sat.shutE {w:World} {b:Nat} {L:List (Value × Value)} (i:Nat) (q:{q:Array MapEntry × Nat // EsOk L q}) (hk:G[i]? = some (mapX b q.1.1 q.1.2)) (s:Sat w0 G w):Sat w0 (G.set i (mapE b L)) w :=
 s.weaken i hk _ fun p hp=>⟨q.1.1,q.1.2,hp,q.2.1,q.2.2⟩
theorem EsOk.none {q:Array MapEntry × Nat} (h:EsOk [] q):q.1 = #[]:=by
 have:=List.map_eq_nil_iff.1 h.1
 exact Array.toList_eq_nil_iff.1 this
theorem EsOk.one {k v:Value} {q:Array MapEntry × Nat} (h:EsOk [(k,v)] q):∃ e,q.1 = #[e]∧e.key = k∧e.val = v∧e.born < q.2:=by
 obtain ⟨h1,h2⟩:=h
 cases hq:q.1.toList with
 | nil=>rw [hq] at h1; cases h1
 | cons e r =>
  rw [hq] at h1 h2
  simp only [List.map_cons,List.cons.injEq,Prod.mk.injEq,List.map_eq_nil_iff] at h1
  obtain ⟨⟨h3,h4⟩,rfl⟩:=h1
  exact ⟨e,Array.toList_inj.1 hq,h3,h4,h2 e (by simp)⟩
theorem Sd.rangeX (i:Nat) {t kt:TypeId} {z:Value} {x:Operand} {b clock:Nat} {es:Array MapEntry} (ht:mpT P t kt z) (hx:ev fr x = some (.map (some b))) (hk:G[i]? = some (mapX b es clock)) :
  Sd P n ⟨dst,.range t x,ty,pos,aft,g⟩ fr (Sat w0 G) (fun r:Nat=>.pointer (some ⟨r,0,none⟩)) (fun r=>Sat w0 (G ++ [iterX r b clock #[] clock])):=fun a w kn s=>by
 obtain ⟨e,inf,d,u1,u2,u3,u4⟩:=ht
 obtain ⟨p,hp,hl,_⟩:=s.get i hk
 have hb:w.heap[b]? = some (.map es clock):=hl _ _ hp
 have hr:(execOp a.eval ⟨dst,.range t x,ty,pos,aft,g⟩).run P w = .ok (.value (.pointer (some ⟨w.heap.size,0,none⟩))) (w.alloc (.mapIter (some b) clock #[] clock)):=by
  simp [execOp,kn.ev hx,Instr.range,run_underlying u1,Go.MapKept.run_getObj_map hb,Result.andThen]
 rw [hr]
 refine ⟨w.heap.size,rfl,s.new (Ext.alloc w _) _ (fun c=>if c = w.heap.size then some (.mapIter (some b) clock #[] clock) else none) (by show (if w.heap.size = w.heap.size then _ else _) = _; simp) (fun c o hc=>?_) (fun c o hc=>?_)⟩
 ·dsimp only at hc
  split at hc
  ·rename_i hb'; subst hb'; cases hc
   exact (heap_alloc w _).1
  ·cases hc
 ·split at hc
  ·omega
  ·cases hc
theorem Qt.nextEnd (i j:Nat) {x:Operand} {b r since clock c0:Nat} {es:Array MapEntry} {seen:Array Nat} (hx:ev fr x = some (.pointer (some ⟨r,0,none⟩))) (hk:G[i]? = some (mapX b es clock)) (hj:G[j]? = some (iterX r b since seen c0))
  (ho:∀ e ∈ es.toList,e.born < since) (hs:since ≤ c0) (hn:∀ e ∈ es.toList,seen.contains e.born = true) :
  Qt P n ⟨dst,.next x false,ty,pos,aft,g⟩ fr (Sat w0 G) (.tuple #[.bool false]):=fun a w kn s=>by
 obtain ⟨p,hp,hl,_⟩:=s.get i hk
 obtain ⟨p2,hp2,hl2,_⟩:=s.get j hj
 have hb:w.heap[b]? = some (.map es clock):=hl _ _ hp
 have hi:w.heap[r]? = some (.mapIter (some b) since seen c0):=hl2 _ _ hp2
 have hz:(Go.leftOf es seen).size = 0:=by
  unfold Go.leftOf
  rw [Array.size_eq_zero_iff,Array.filter_eq_empty_iff]
  intro e he
  have:=hn e (by simpa using he)
  simpa using this
 rcases Go.run_next_at (P:=P) w ty r b since c0 seen es clock hi hb ho hs with ⟨_,h⟩ | ⟨e,he,_⟩
 ·have hr:(execOp a.eval ⟨dst,.next x false,ty,pos,aft,g⟩).run P w = .ok (.value (.tuple #[.bool false])) w:=by
   simp [execOp,kn.ev hx,h,Result.andThen]
  rw [hr]; exact ⟨Ext.refl w,rfl⟩
 ·rw [Array.size_eq_zero_iff.1 hz] at he; simp at he
theorem Sd.nextOne (i j:Nat) {x:Operand} {b r since clock c0:Nat} {e:MapEntry} (hx:ev fr x = some (.pointer (some ⟨r,0,none⟩))) (hk:G[i]? = some (mapX b #[e] clock)) (hj:G[j]? = some (iterX r b since #[] c0)) (ho:e.born < since) (hs:since ≤ c0) :
  Sd P n ⟨dst,.next x false,ty,pos,aft,g⟩ fr (Sat w0 G) (fun _:Unit=>.tuple #[.bool true,e.key,e.val]) (fun _=>Sat w0 (G.set j (iterX r b since #[e.born] clock))):=fun a w kn s=>by
 obtain ⟨p,hp,hl,_⟩:=s.get i hk
 obtain ⟨p2,hp2,hl2,_⟩:=s.get j hj
 have hb:w.heap[b]? = some (.map #[e] clock):=hl _ _ hp
 have hi:w.heap[r]? = some (.mapIter (some b) since #[] c0):=hl2 _ _ hp2
 rcases Go.run_next_at (P:=P) w ty r b since c0 #[] #[e] clock hi hb (by simpa using ho) hs with ⟨h,_⟩ | ⟨e',he,w1,hw,h⟩
 ·simp [Go.leftOf] at h
 ·have he':e' = e:=by simpa [Go.leftOf] using he
  subst he'
  have hr:(execOp a.eval ⟨dst,.next x false,ty,pos,aft,g⟩).run P w = .ok (.value (.tuple #[.bool true,e'.key,e'.val])) (ChangeMaps.setBlock w1 r (.mapIter (some b) since #[e'.born] clock)):=by
   simp [execOp,kn.ev hx,h,Result.andThen]
  rw [hr]
  have s1:Sat w0 G w1:=by rcases hw with rfl | rfl; exact s; exact s.drewS
  refine ⟨(),rfl,s1.turn j hj _ rfl rfl rfl (by simp [ChangeMaps.setBlock]) fun q hq hql hqb=>?_⟩
  have hbw:=hql _ _ hq
  obtain ⟨g1,g2⟩:=heap_set (o':=.mapIter (some b) since #[e'.born] clock) (show w1.heap[r]? = some _ from hbw)
  refine ⟨fun c hc hn=>g2 c (fun e0=>by rw [e0,hq] at hn; cases hn),fun c=>if c = r then some (.mapIter (some b) since #[e'.born] clock) else none,by show (if r = r then _ else _) = _; simp,fun c o hc=>?_⟩
  dsimp only at hc
  split at hc
  ·rename_i hcb; subst hcb; cases hc
   exact ⟨.inl (by rw [hq]; simp),g1⟩
  ·cases hc
theorem Qt.entryX (i j:Nat) {x:Operand} {b r since clock:Nat} {e:MapEntry} (hx:ev fr x = some (.pointer (some ⟨r,0,none⟩))) (hk:G[i]? = some (mapX b #[e] clock)) (hj:G[j]? = some (iterX r b since #[e.born] clock)) :
  Qt P n ⟨dst,.entry x,ty,pos,aft,g⟩ fr (Sat w0 G) (.tuple #[e.key,e.val]):=fun a w kn s=>by
 obtain ⟨p,hp,hl,_⟩:=s.get i hk
 obtain ⟨p2,hp2,hl2,_⟩:=s.get j hj
 have hb:w.heap[b]? = some (.map #[e] clock):=hl _ _ hp
 have hi:w.heap[r]? = some (.mapIter (some b) since #[e.born] clock):=hl2 _ _ hp2
 have hr:(execOp a.eval ⟨dst,.entry x,ty,pos,aft,g⟩).run P w = .ok (.value (.tuple #[e.key,e.val])) w:=by
  have hq:=Go.run_entry_at (P:=P) w r b since #[] #[e] clock e hi hb (by simp) (by simp)
  simp [execOp,kn.ev hx,hq,Result.andThen]
 rw [hr]; exact ⟨Ext.refl w,rfl⟩
theorem Qt.oneX (i:Nat) {t kt:TypeId} {z:Value} {K:Value→Prop} {x y:Operand} {b ck:Nat} {es:Array MapEntry} {k v:Value} (hq:EsOk [(k,v)] (es,ck)) (ht:mpT P t kt z) (hK:KeyT P kt K) (hx:ev fr x = some (.map (some b))) (hy:ev fr y = some k) (hk:G[i]? = some (mapX b es ck)) (h:K k) :
  Qt P n ⟨dst,.lookup t x y false,ty,pos,aft,g⟩ fr (Sat w0 G) v:=fun a w kn s=>by
 have hli:i < G.length:=(List.getElem?_eq_some_iff.1 hk).1
 exact Qt.oneE (G:=G.set i (mapE b [(k,v)])) i ht hK hx hy (by rw [List.getElem?_set_self hli]) h a w kn (s.shutE i ⟨(es,ck),hq⟩ hk)
theorem T.loop2 {γ:Type} {c:Code} {Q:Po} (U:Fr) (SS1:γ→As) (hU:Sub fr U) (one:∀ K:Act→World→Prop,(∀ fr' S' q,Sub fr' U→(∀ w,S' w→SS1 q w)→Cont n K fr' S')→T P n c U S (Exit.then K Q))
  (two:∀ q,∀ K:Act→World→Prop,T P n c U (SS1 q) (Exit.then K Q)):T P n (.loop c) fr S Q:=by
 refine T.loop (σ:=Option γ) (fun _=>U) (fun x=>match x with | none=>S | some q=>SS1 q) (fun _=>True) (fun x=>match x with | none=>1 | some _=>0) none trivial hU (fun _ s=>s) ?_
 rintro (_ | q) _ K hL
 ·exact one K fun fr' S' q h1 h2=>hL fr' S' (some q) trivial (Nat.lt_succ_self 0) h1 h2
 ·exact two q K
end
end Go.Vg
set_option linter.unusedVariables false
set_option linter.unusedSimpArgs false
set_option maxRecDepth 20000
set_option maxHeartbeats 4000000
namespace Go.Proofs.YtmngdgclldkcfaaGreat
open Go.Vg
open Enc (R)
theorem ent171:Ent Tryz.prog 171:=en Tryz.func171
theorem ent172:Ent Tryz.prog 172:=en Tryz.func172
theorem ent173:Ent Tryz.prog 173:=en Tryz.func173
instance fd264_0:FdC Tryz.prog 264 0 0:={}
instance fd264_1:FdC Tryz.prog 264 1 1:={}
theorem st264:stTy Tryz.prog 264 = some ([.map none,.map none],[(0,1),(1,1)]):=by kernel_rfl
instance ty261:TyC Tryz.prog 261 (1,false):={}
instance ty262:TyC Tryz.prog 262 (1,false):={}
abbrev zV:Value:=.agg #[.int .i64 0,.int .i64 0]
theorem mpA:mpT Tryz.prog 261 3 zV:=mpT_of (by kernel_rfl)
theorem mpC:mpT Tryz.prog 262 266 (.slice none 0 0):=mpT_of (by kernel_rfl)
theorem kyI:KeyT Tryz.prog 3 IntK:=KeyT.int (by kernel_rfl)
theorem kyC:KeyT Tryz.prog 266 TwoK:=KeyT.two (by kernel_rfl)
theorem loop_one {σ β:Type} {f:σ→Option (St σ β)} {s:σ} {b:β} (h:f s = some (St.done b)):Vg.loop f s = some b :=
 Ok.eq (Ok.loop (fun z=>z = s) (fun _=>0) rfl (by unfold FUEL; omega) (by rintro z rfl; rw [h]; exact Ok.ret rfl))
theorem less_self (id:Int):cmp_Less id id = some false:=by
 unfold cmp_Less cmp_isNaN
 simp
theorem bs_one (id:Int):slices_BinarySearch [id] id = some (0,true):=by
 unfold slices_BinarySearch
 refine Ok.eq (Ok.bind (R:=fun v=>v = 0) (Ok.loop (fun z:Int × Int=>z = (0,1) ∨ z = (0,0)) (fun z=>z.2.toNat) (.inl rfl) (by show (1:Nat) < FUEL; decide) ?_) ?_)
 ·rintro z (rfl | rfl)
  ·dsimp only
   rw [if_pos (by decide),if_pos (by decide),if_pos (by decide),if_pos (by decide),if_pos (by show _∧_ < (1:Int); decide)]
   show Ok (Option.bind (cmp_Less id id) _) _
   rw [less_self,bsome,if_neg (by simp)]
   exact Ok.ret ⟨.inr rfl,by decide⟩
  dsimp only
  rw [if_neg (by decide)]
  exact Ok.ret rfl
 rintro v rfl
 rw [if_pos (by simp),if_pos (by simp)]
 show Ok (Option.bind (Option.bind (if id = id then _ else _) _) _) _
 rw [if_pos rfl]
 exact Ok.ret rfl
theorem del_one (id:Int):slices_DeleteInt [id] 0 1 = some []:=rfl
theorem ins_one (id:Int):slices_InsertInt [] 0 [id] = some [id]:=rfl
theorem bs_nil (id:Int):slices_BinarySearch [] id = some (0,false):=by
 unfold slices_BinarySearch
 rw [loop_one (b:=0) (by dsimp only; rw [if_neg (by simp)]),bsome,if_neg (by simp),bsome]
abbrev Cls:=Option (Int × Vec × Cel)
def atL:Cls→List (Value × Value)
  | none=>[]
  | some (i,p,_)=>[(.int .i64 i,.agg #[.int .i64 p.x,.int .i64 p.y])]
def inL (q:Option Nat × Nat):Cls→List (Value × Value)
  | none=>[]
  | some (_,_,c)=>[(.agg #[.int .i64 c.x,.int .i64 c.y],rowV q 1)]
def idL:Cls→List Int
  | none=>[]
  | some (i,_,_)=>[i]
def okC:Cls→Prop
  | none=>True
  | some (_,p,c)=>cells_of p = some c
def Cells_ch (g:Nat) (o:Cls):Ch:=exch fun q:{q:Nat × Nat × (Option Nat × Nat) // okC o}=>stars (blk g [.map (some q.1.1),.map (some q.1.2.1)] 264 :: [mapE q.1.1 (atL o),mapE q.1.2.1 (inL q.1.2.2 o),row nilH 3 (rowV q.1.2.2 (idL o).length) (idL o)])
theorem Cells_open {w0 w:World} {G:List Ch} {g:Nat} {o:Cls} (k:Nat) (hk:G[k]? = some (Cells_ch g o)) (h:Sat w0 G w):∃ q:{q:Nat × Nat × (Option Nat × Nat) // okC o},Sat w0 (G.set k (blk g [.map (some q.1.1),.map (some q.1.2.1)] 264) ++ [mapE q.1.1 (atL o),mapE q.1.2.1 (inL q.1.2.2 o),row nilH 3 (rowV q.1.2.2 (idL o).length) (idL o)]) w :=
 Sat.openAt (A:=fun q:{q:Nat × Nat × (Option Nat × Nat) // okC o}=>blk g [.map (some q.1.1),.map (some q.1.2.1)] 264) (L:=fun q=>[mapE q.1.1 (atL o),mapE q.1.2.1 (inL q.1.2.2 o),row nilH 3 (rowV q.1.2.2 (idL o).length) (idL o)]) k hk h
theorem Cells_shut {w0 w:World} {R:List Ch} {g:Nat} {o:Cls} (q:Nat × Nat × (Option Nat × Nat)) (ho:okC o) (h:Sat w0 (R ++ [blk g [.map (some q.1),.map (some q.2.1)] 264,mapE q.1 (atL o),mapE q.2.1 (inL q.2.2 o),row nilH 3 (rowV q.2.2 (idL o).length) (idL o)]) w):Sat w0 (Cells_ch g o :: R) w :=
 Sat.toEx (C:=fun q:{q:Nat × Nat × (Option Nat × Nat) // okC o}=>stars (blk g [.map (some q.1.1),.map (some q.1.2.1)] 264 :: [mapE q.1.1 (atL o),mapE q.1.2.1 (inL q.1.2.2 o),row nilH 3 (rowV q.1.2.2 (idL o).length) (idL o)])) ⟨q,ho⟩ (Sat.toStars (blk g [.map (some q.1),.map (some q.2.1)] 264 :: [mapE q.1 (atL o),mapE q.2.1 (inL q.2.2 o),row nilH 3 (rowV q.2.2 (idL o).length) (idL o)]) (G:=R) h)
def cells_New:Option Cls:=some none
def cells_Remove (o:Cls) (id:Int):Option (Bool × Cls):=match o with
  | none=>some (false,none)
  | some (i,_,_)=>if i = id then some (true,none) else none
def cells_Put (o:Cls) (id:Int) (p:Vec):Option Cls:=Option.bind (cells_Remove o id) fun x=>match x.2 with
  | none=>Option.bind (cells_of p) fun c=>some (some (id,p,c))
  | some _=>none
theorem cells_New_walk (w:World) {r:Cls} (H:cells_New = some r):Calls Tryz.prog 116 #[] w fun e w'=>∃ g:Nat,e = .returned (.pointer (some ⟨g,0,none⟩))∧Sat w [Cells_ch g r] w':=by
 obtain rfl:=sj H
 refine te Tryz.func116 (Sat.start w) ?_
 refine au 2 ?_
 refine T.seq fun _ k2=>T.region (RS.solid Sd.makeMapE rfl rfl fun qa=>?_)
 refine RS.solid Sd.makeMapE rfl rfl fun qi=>?_
 refine rp (Pu.build (cells:=[_,_]) st264 rfl rfl) (RS.solid (Sd.box (cs:=[_,_]) rfl rfl) rfl rfl fun b4=>rA rfl (RS.nil (k2 _ _ (kq [0] ?_))))
 refine T.retTo (by with_reducible ((repeat (first | apply RetTo.seq | apply RetTo.blk)); exact RetTo.refl _)) (Cont.ret1 rfl rfl fun w' s=>?_)
 exact ⟨b4,rfl,Cells_shut (o:=none) (qa,qi,(none,0)) trivial ((s.nilRow (α:=Int) 3).pick [2,0,1,3] (by decide) rfl)⟩
theorem cells_Remove_one {w0:World} {F:Ch} (g qa qi:Nat) (q:Option Nat × Nat) (id:Int) (p:Vec) {c:Cel} (hc:cells_of p = some c) (w:World) (s:Sat w0 [blk g [.map (some qa),.map (some qi)] 264,mapE qa [(.int .i64 id,.agg #[.int .i64 p.x,.int .i64 p.y])],mapE qi [(.agg #[.int .i64 c.x,.int .i64 c.y],rowV q 1)],row nilH 3 (rowV q 1) [id],F] w):Calls Tryz.prog 171 #[.pointer (some ⟨g,0,none⟩),.int .i64 id] w fun e w'=>e = .returned (.bool true)∧Sat w0 [blk g [.map (some qa),.map (some qi)] 264,mapE qa [],mapE qi [],F] w':=by
 refine te Tryz.func171 s ?_
 refine au 2 ?_
 refine T.seq fun _ k2=>T.region (au 5 ?_)
 refine rq (Qt.oneE2 1 mpA kyI rfl rfl rfl ⟨_,rfl⟩) (au 3 ?_)
 refine RS.solid (Sd.alloc zr33 rfl) rfl rfl fun b5=>au 2 ?_
 refine RS.nil (k2 _ _ (kq [0,1,5,6] ?_))
 refine T.seq fun _ k3=>au 3 ?_
 refine T.cond rfl (fun hc21=>?_) (fun hc21=>?_)
 ·cases hc21 -- end
 refine T.skip (k3 _ _ (kq [0,1,5] ?_))
 refine T.seq fun _ k5=>T.region (rq (Qt.ldBA (us:=[_,_]) 5 ty33.h rfl rfl rfl rfl) (rq (Qt.call ent172 rfl fun w s=>cells_of_walk p w hc) (RS.solid (Sd.alloc zr266 rfl) rfl rfl fun b7=>RS.solid (Sd.stB (cs':=[_,_]) 6 ty266.h rfl rfl rfl rfl rfl rfl rfl rfl) rfl rfl fun _=>RS.nil (k5 _ _ (kq [0,1,7] ?_)))))
 refine T.seq fun _ k6=>dr mixed [0,0,0,1,1,1,0] ?_
 refine au 5 ?_
 refine dq rfl (Qt.oneE 2 mpC kyC rfl rfl rfl ⟨_,_,rfl⟩) (dp rfl (Pu.assign rfl) (RD.nil (k6 _ _ (kq [0,1,7,8] ?_))))
 refine T.seq fun _ k7=>T.region (au 2 ?_)
 refine rq (Qt.call ent173 rfl fun w s=>slices_BinarySearch_walk [id] id w (Rd.ofRowN 3 rfl w s) (bs_one id)) (au 5 ?_)
 refine RS.nil (k7 _ _ (kq [0,1,7,8,9] ?_))
 refine T.seq fun _ k8=>T.seq fun _ k9=>T.region (au 3 ?_)
 refine rp (Pu.addS rfl rfl (by omega)) (RS.solid (Sd.callM 3 ent238 rfl rfl (fun w s=>slices_DeleteInt_walk [id] 0 1 rfl (del_one id) w s)) rfl rfl fun q7=>rA rfl (RS.nil (k9 _ _ (kq [0,1,7,8] ?_))))
 refine au 4 ?_
 refine T.condP rfl (fun hc43=>?_) (fun hc43=>?_)
 ·refine kq [0,1,7] ?_
  refine dr mixed [0,0,0,1,1,4] ?_
  refine au 5 ?_
  refine RD.solid rfl (.inr rfl) rfl rfl (Sd.delE 2 mpC kyC rfl rfl rfl ⟨_,_,rfl⟩) (fun _=>ClE.sat _ _) (fun _ _ _=>trivial) (fun h=>(by cases h)) fun _=>?_
  refine RD.nil (k8 _ _ (kq [0,1] ?_))
  refine T.seq fun _ k11=>T.region (au 5 ?_)
  refine RS.solid (Sd.delE 1 mpA kyI rfl rfl rfl ⟨_,rfl⟩) rfl rfl fun _=>RS.nil (k11 _ _ (kq [] ?_))
  refine au 2 ?_
  refine T.retTo (by with_reducible ((repeat (first | apply RetTo.seq | apply RetTo.blk)); exact RetTo.refl _)) (Cont.ret1 rfl rfl fun w' s=>?_)
  exact ⟨rfl,s.pc [0,1,2,4]⟩
 exact absurd rfl hc43 -- end
theorem cells_Remove_nil {w0:World} {F:Ch} (g qa qi:Nat) (id:Int) (w:World) (s:Sat w0 [blk g [.map (some qa),.map (some qi)] 264,mapE qa [],mapE qi [],F] w):Calls Tryz.prog 171 #[.pointer (some ⟨g,0,none⟩),.int .i64 id] w fun e w'=>e = .returned (.bool false)∧Sat w0 [blk g [.map (some qa),.map (some qi)] 264,mapE qa [],mapE qi [],F] w':=by
 refine te Tryz.func171 s ?_
 refine au 2 ?_
 refine T.seq fun _ k2=>T.region (au 5 ?_)
 refine rq (Qt.nilE2 1 mpA kyI rfl rfl rfl ⟨_,rfl⟩) (au 3 ?_)
 refine RS.solid (Sd.alloc zr33 rfl) rfl rfl fun b5=>au 2 ?_
 refine RS.nil (k2 _ _ (kq [0,1,5,6] ?_))
 refine T.seq fun _ k3=>au 3 ?_
 refine T.cond rfl (fun hc21=>?_) (fun hc21=>?_)
 ·refine kq [] ?_
  refine au 2 ?_
  refine T.retTo (by with_reducible ((repeat (first | apply RetTo.seq | apply RetTo.blk)); exact RetTo.refl _)) (Cont.ret1 rfl rfl fun w' s=>?_)
  exact ⟨rfl,s.pc [0,1,2,3]⟩
 cases hc21 -- end
theorem cells_Remove_walk {w0:World} {F:Ch} (g:Nat) (o:Cls) (id:Int) {r:Bool × Cls} (H:cells_Remove o id = some r) (w:World) (s:Sat w0 [Cells_ch g o,F] w):Calls Tryz.prog 171 #[.pointer (some ⟨g,0,none⟩),.int .i64 id] w fun e w'=>e = .returned (.bool r.1)∧Sat w0 [Cells_ch g r.2,F] w':=by
 obtain ⟨⟨⟨qa,qi,q⟩,hq⟩,s⟩:=Cells_open 0 rfl s
 unfold cells_Remove at H
 cases o with
 | none =>
  obtain rfl:=sj H
  exact (cells_Remove_nil g qa qi id w (s.pc [0,2,3,1])).mono fun e w' ⟨he,s⟩=>⟨he,Cells_shut (o:=none) (qa,qi,(none,0)) trivial ((s.nilRow (α:=Int) 3).pick [3,0,1,2,4] (by decide) rfl)⟩
 | some z =>
  obtain ⟨i,p,c⟩:=z
  dsimp only at H
  split at H
  ·rename_i hi; subst hi
   obtain rfl:=sj H
   exact (cells_Remove_one g qa qi q i p hq w (s.pc [0,2,3,4,1])).mono fun e w' ⟨he,s⟩=>⟨he,Cells_shut (o:=none) (qa,qi,(none,0)) trivial ((s.nilRow (α:=Int) 3).pick [3,0,1,2,4] (by decide) rfl)⟩
  cases H
theorem cells_Put_walk {w0:World} {F:Ch} (g:Nat) (o:Cls) (id:Int) (p:Vec) {r:Cls} (H:cells_Put o id p = some r) (w:World) (s:Sat w0 [Cells_ch g o,F] w):Calls Tryz.prog 117 #[.pointer (some ⟨g,0,none⟩),.int .i64 id,.agg #[.int .i64 p.x,.int .i64 p.y]] w fun e w'=>e = .returned (.tuple #[])∧Sat w0 [Cells_ch g r,F] w':=by
 unfold cells_Put at H
 obtain ⟨x,hx,H⟩:=bindE H
 refine te Tryz.func117 s ?_
 refine T.seq fun _ k1=>T.region (RS.solid (Sd.box (cs:=[_,_]) rfl rfl) rfl rfl fun b5=>RS.nil (k1 _ _ ?_))
 refine T.seq fun _ k2=>T.region (au 2 ?_)
 refine RS.solid (Sd.callF0 0 ent171 rfl rfl (fun w s=>cells_Remove_walk g o id hx w s)) rfl rfl fun _=>RS.nil (k2 _ _ (kq [0,1,5] ?_))
 refine T.seq fun _ k3=>?_
 obtain ⟨x1,x2⟩:=x
 have hx2:x2 = none:=by
  cases x2
  ·rfl
  cases H
 subst hx2
 obtain ⟨c,hc,H⟩:=bindE H
 obtain rfl:=sj H
 refine T.ex (fun w s=>Cells_open (o:=none) 0 rfl s) fun q=>?_
 obtain ⟨⟨qa,qi,q⟩,hq⟩:=q
 show T _ _ _ _ (Sat w0 [blk g [.map (some qa),.map (some qi)] 264,F,blk b5 [.int .i64 p.x,.int .i64 p.y] 33,mapE qa [],mapE qi [],row nilH 3 (rowV q 0) ([]:List Int)]) _
 refine T.weakS (S':=Sat w0 [blk g [.map (some qa),.map (some qi)] 264,F,blk b5 [.int .i64 p.x,.int .i64 p.y] 33,mapE qa [],mapE qi [],row nilH 3 (rowV (none,0) 0) ([]:List Int)]) (fun w s=>(s.nilRow (α:=Int) 3).pick [0,1,2,3,4,6] (by decide) rfl) ?_
 refine T.region (rq (Qt.ldBA (us:=[_,_]) 2 ty33.h rfl rfl rfl rfl) (rq (Qt.call ent172 rfl fun w s=>cells_of_walk p w hc) (RS.solid (Sd.alloc zr266 rfl) rfl rfl fun b6=>RS.solid (Sd.stB (cs':=[_,_]) 6 ty266.h rfl rfl rfl rfl rfl rfl rfl rfl) rfl rfl fun _=>RS.nil (k3 _ _ ?_))))
 refine T.seq fun _ k4=>dr mixed [0,0,0,1,1,1,0,1,0,0,0,0,0] ?_
 refine au 5 ?_
 refine dq rfl (Qt.nilE 4 mpC kyC rfl rfl rfl ⟨_,_,rfl⟩) (dp rfl (Pu.move rfl) (dq rfl (Qt.call ent173 rfl fun w s=>slices_BinarySearch_walk [] id w (Rd.nil w s) (bs_nil id)) (au 5 ?_)))
 refine RD.nil (k4 _ _ (kq [0,1,5,6,7] ?_))
 refine T.seq fun _ k5=>drS mixed [0,1,2,3,6] [0,0,0,2,2,0,0,0,2,2,1,0,0,3,4,4] ?_
 refine au 10 ?_
 refine RD.q (fun w s=>s.pc [0,1,2,3,6]) rfl (Qt.nilE 4 mpC kyC rfl rfl rfl ⟨_,_,rfl⟩) rfl rfl (au 2 ?_)
 refine RD.solid rfl (.inl rfl) rfl rfl (Sd.litS (cs:=[_]) sl35.h zr3 rfl rfl rfl rfl rfl) (fun _=>ClE.sat _ _) (fun _ w s=>s.pc [0,1,2,3,6]) (fun _ _ _ s=>s.drop1) fun b38=>?_
 refine RD.solid rfl (.inr rfl) rfl rfl (Sd.callM 5 ent174 rfl rfl (fun w s=>slices_InsertInt_walk [] 0 [id] rfl (Rd.rest 7 rfl (by decide) (Rd.ofLit 0 rfl (show 1 ≤ maxLen by decide) rfl ⟨[_],_,rfl,rfl,rfl⟩)) (ins_one id) w s)) (fun _=>ClE.sat _ _) (fun _ _ s=>s.pc [0,1,2,3,6]) (fun h=>(by cases h)) fun q8=>?_
 refine RD.solid rfl (.inr rfl) rfl rfl (Sd.mapFirst 4 mpC kyC rfl rfl rfl rfl ⟨_,_,rfl⟩) (fun _=>ClE.sat _ _) (fun _ _ s=>s.pc [0,1,2,3,6]) (fun h=>(by cases h)) fun _=>?_
 refine RD.nil (k5 _ _ (kq [0,1,5] ?_))
 refine dr mixed [0,0,0,1,0,1,4] ?_
 refine au 6 ?_
 refine RD.solid rfl (.inr rfl) rfl rfl (Sd.mapFirst 3 mpA kyI rfl rfl rfl rfl ⟨_,rfl⟩) (fun _=>ClE.sat _ _) (fun _ _ _=>trivial) (fun h=>(by cases h)) fun _=>?_
 refine RD.nil (Cont.end0 rfl fun w' s=>?_)
 exact ⟨rfl,Cells_shut (o:=some (id,p,c)) (qa,qi,q8) hc (s.pc [1,0,3,4,5])⟩
end Go.Proofs.YtmngdgclldkcfaaGreat
