/-
  Texts of one's own, joined: V8 WC WF.
-/
import Derived.Test.YtmngdgclldkcfaaGreatJ13
import Derived.Laws.LoneSync
import Derived.MapKept
import Derived.Test.YtmngdgclldkcfaaGreatJ6
import Derived.Test.YtmngdgclldkcfaaGreatJ4
import Derived.ArgAppend
set_option linter.unusedSimpArgs false
set_option linter.unusedVariables false
namespace Go.Vg
open Go.RowKit (Below)
open Enc (R)
open Go.MapKept
section
variable {β:Type}
def kput:List (Int × β)→Int→β→List (Int × β)
  | [],k,v=>[(k,v)]
  | (a,b) :: L,k,v=>if a = k then (k,v) :: L else (a,b) :: kput L k v
def kget:List (Int × β)→Int→Option β
  | [],_=>none
  | (a,b) :: L,k=>if a = k then some b else kget L k
def keys (L:List (Int × β)):List Int:=L.map (·.1)
theorem kget_put (L:List (Int × β)) (k i:Int) (v:β):kget (kput L k v) i = if i = k then some v else kget L i:=by
 induction L with
 | nil =>
  simp only [kput,kget]
  by_cases h:k = i
  ·rw [if_pos h,if_pos h.symm]
  ·rw [if_neg h,if_neg fun e=>h e.symm]
 | cons a L ih =>
  obtain ⟨a,b⟩:=a
  simp only [kput]
  by_cases h:a = k
  ·rw [if_pos h]
   simp only [kget]
   by_cases h2:i = k
   ·rw [if_pos h2,if_pos h2.symm]
   ·rw [if_neg h2,if_neg fun e=>h2 e.symm,if_neg fun e=>h2 (by omega)]
  ·rw [if_neg h]
   simp only [kget]
   by_cases h2:a = i
   ·rw [if_pos h2,if_pos h2,if_neg (by omega)]
   ·rw [if_neg h2,if_neg h2,ih]
theorem keys_put (L:List (Int × β)) (k:Int) (v:β):(kget L k ≠ none→keys (kput L k v) = keys L)∧(kget L k = none→keys (kput L k v) = keys L ++ [k]):=by
 induction L with
 | nil=>exact ⟨fun h=>absurd rfl h,fun _=>rfl⟩
 | cons a L ih =>
  obtain ⟨a,b⟩:=a
  by_cases h:a = k
  ·have e1:kget ((a,b) :: L) k = some b:=by simp [kget,h]
   have e2:kput ((a,b) :: L) k v = (k,v) :: L:=by simp [kput,h]
   rw [e1,e2]
   exact ⟨fun _=>by simp [keys,h],fun e=>by cases e⟩
  ·have e1:kget ((a,b) :: L) k = kget L k:=by simp [kget,h]
   have e2:kput ((a,b) :: L) k v = (a,b) :: kput L k v:=by simp [kput,h]
   rw [e1,e2]
   exact ⟨fun e=>by show a :: keys (kput L k v) = a :: keys L; rw [ih.1 e],fun e=>by show a :: keys (kput L k v) = a :: (keys L ++ [k]); rw [ih.2 e]⟩
theorem kget_none {L:List (Int × β)} {k:Int}:kget L k = none ↔ k ∉ keys L:=by
 induction L with
 | nil=>simp [kget,keys]
 | cons a L ih =>
  obtain ⟨a,b⟩:=a
  simp only [kget,keys,List.map_cons,List.mem_cons,not_or]
  by_cases h:a = k
  ·rw [if_pos h]; simp [h]
  ·rw [if_neg h,ih]
   exact ⟨fun k1=>⟨fun e=>h e.symm,k1⟩,fun k1=>k1.2⟩
theorem nodup_put {L:List (Int × β)} {k:Int} {v:β} (h:(keys L).Nodup):(keys (kput L k v)).Nodup:=by
 cases hk:kget L k with
 | some u=>rw [(keys_put L k v).1 (by rw [hk]; exact fun e=>by cases e)]; exact h
 | none =>
  rw [(keys_put L k v).2 hk,List.nodup_append]
  refine ⟨h,by simp,fun a ha b hb=>?_⟩
  simp at hb; subst hb
  exact fun e=>kget_none.1 hk (e ▸ ha)
end
def kvv (L:List (Int × Value)):List (Value × Value):=L.map fun p=>(.int .i64 p.1,p.2)
def mapL (b:Nat) (L:List (Int × Value)):Ch:=fun h=>∃ es clock,h b = some (.map es clock)∧es.toList.map (fun e=>(e.key,e.val)) = kvv L∧(keys L).Nodup
theorem findNow_L (k:Int):∀ (es:List MapEntry) (L:List (Int × Value)) (i:Nat),es.map (fun e=>(e.key,e.val)) = kvv L →
  (kget L k = none∧(∀ v,kput L k v = L ++ [(k,v)])∧Instr.findNow (.int .i64) (.int .i64 k) es i = some none) ∨ ∃ j v,L[j]? = some (k,v)∧kget L k = some v∧(∀ u,kput L k u = L.set j (k,u))∧Instr.findNow (.int .i64) (.int .i64 k) es i = some (some (i + j,v))
 | [],L,i,h=>by
  cases L with
  | nil=>exact .inl ⟨rfl,fun _=>rfl,rfl⟩
  | cons a L=>simp [kvv] at h
 | e :: es,L,i,h=>by
  cases L with
  | nil=>simp [kvv] at h
  | cons a L =>
   obtain ⟨k',v'⟩:=a
   simp only [kvv,List.map_cons,List.cons.injEq,Prod.mk.injEq] at h
   obtain ⟨⟨h1,h2⟩,h3⟩:=h
   by_cases hk:k' = k
   ·subst hk
    exact .inr ⟨0,v',rfl,by simp [kget],fun u=>by simp [kput],by simp [Instr.findNow,Instr.sameNow,h1,h2]⟩
   ·have hb:(k == k') = false:=by simp; exact fun e=>hk e.symm
    have hs:Instr.findNow (.int .i64) (.int .i64 k) (e :: es) i = Instr.findNow (.int .i64) (.int .i64 k) es (i + 1):=by
     simp [Instr.findNow,Instr.sameNow,h1,hb]
    rcases findNow_L k es L (i + 1) h3 with ⟨g1,g0,g2⟩ | ⟨j,v,g1,g2,g0,g3⟩
    ·exact .inl ⟨by simp [kget,hk,g1],fun v=>by simp [kput,hk,g0],by rw [hs,g2]⟩
    ·exact .inr ⟨j + 1,v,by simpa using g1,by simp [kget,hk,g2],fun u=>by simp [kput,hk,g0],by rw [hs,g3]; simp; omega⟩
def mpZ (P:Program) (t:TypeId):Option Value:=match P.underlying t with
  | some (.map k e)=>(match P.underlying k with | some (.int .i64)=>(P.info? e).bind (·.zero) | _=>none)
  | _=>none
theorem mpZ_spec {P:Program} {t:TypeId} {z:Value} (h:mpZ P t = some z):∃ k e,P.underlying t = some (.map k e)∧P.underlying k = some (.int .i64)∧∃ i,P.info? e = some i∧i.zero = some z:=by
 unfold mpZ at h
 split at h
 ·rename_i k e hu
  split at h
  ·rename_i hk
   obtain ⟨i,hi,hz⟩:=Option.bind_eq_some_iff.1 h
   exact ⟨k,e,hu,hk,i,hi,hz⟩
  ·cases h
 ·cases h
section
variable {P:Program} {n:Nat} {fr:Fr} {dst:Option Tmp} {ty:TypeId} {pos:String} {aft:Array Edge} {g:Option (Nat × Bool)} {S:As} {w0:World} {G:List Ch}
theorem Sat.getMapL {w:World} {k b:Nat} {L:List (Int × Value)} (h:Sat w0 G w) (hk:G[k]? = some (mapL b L)) :
  ∃ es clock,w.heap[b]? = some (.map es clock)∧es.toList.map (fun e=>(e.key,e.val)) = kvv L∧(keys L).Nodup:=by
 obtain ⟨p,⟨es,clock,h1,h2⟩,hl,_⟩:=h.get k hk
 exact ⟨es,clock,hl _ _ h1,h2⟩
theorem Sat.setMapL {w:World} {k b:Nat} {L L':List (Int × Value)} (s:Sat w0 G w) (hk:G[k]? = some (mapL b L)) {es:Array MapEntry} {clock:Nat}
  (h2:es.toList.map (fun e=>(e.key,e.val)) = kvv L') (h3:(keys L').Nodup):Sat w0 (G.set k (mapL b L')) { w with heap:=w.heap.setIfInBounds b (.map es clock) }:=by
 refine s.turn k hk _ rfl rfl rfl (by simp) fun p hp hl hb=>?_
 obtain ⟨es0,c0,e0,_⟩:=hp
 have hbw:=hl _ _ e0
 obtain ⟨g1,g2⟩:=heap_set (o':=.map es clock) (show w.heap[b]? = some _ from hbw)
 refine ⟨fun c hc hn=>g2 c (fun e'=>by rw [e',e0] at hn; cases hn),fun c=>if c = b then some (.map es clock) else p c,⟨es,clock,by simp,h2,h3⟩,fun c o hc=>?_⟩
 dsimp only at hc
 split at hc
 ·rename_i hcb; subst hcb; cases hc
  exact ⟨.inl (by rw [e0]; simp),g1⟩
 ·rename_i hcb
  exact ⟨.inl (by rw [hc]; simp),by show (w.heap.setIfInBounds b (.map es clock))[c]? = _; rw [g2 c hcb]; exact hl _ _ hc⟩
theorem Sd.makeMapL {t:TypeId}:Sd P n ⟨dst,.makeMap t none,ty,pos,aft,g⟩ fr (Sat w0 G) (fun b:Nat=>.map (some b)) (fun b=>Sat w0 (G ++ [mapL b []])):=fun a w k s=>by
 have:(execOp a.eval ⟨dst,.makeMap t none,ty,pos,aft,g⟩).run P w = .ok (.value (.map (some w.heap.size))) (w.alloc (.map #[] 0)):=by
  simp [execOp,Instr.makeMap]
 rw [this]
 refine ⟨w.heap.size,rfl,s.new (Ext.alloc w _) _ (fun b=>if b = w.heap.size then some (.map #[] 0) else none) ⟨#[],0,by simp,rfl,by simp [keys]⟩ (fun b o hb=>?_) (fun b o hb=>?_)⟩
 ·dsimp only at hb
  split at hb
  ·rename_i hb'; subst hb'; cases hb
   exact (heap_alloc w _).1
  ·cases hb
 ·split at hb
  ·omega
  ·cases hb
theorem Qt.lookL2 (k:Nat) {t:TypeId} {x y:Operand} {b:Nat} {L:List (Int × Value)} {i:Int} {z:Value} (ht:mpZ P t = some z) (hx:ev fr x = some (.map (some b))) (hy:ev fr y = some (.int .i64 i)) (hk:G[k]? = some (mapL b L)) :
  Qt P n ⟨dst,.lookup t x y true,ty,pos,aft,g⟩ fr (Sat w0 G) (.tuple #[(kget L i).getD z,.bool (kget L i).isSome]):=fun a w kn s=>by
 obtain ⟨kt,et,u1,u2,inf,u3,u4⟩:=mpZ_spec ht
 obtain ⟨es,clock,e1,e2,e3⟩:=s.getMapL hk
 have hck:(Instr.checkKey es.isEmpty 10000 kt (.int .i64 i)).run P w = .ok () w:=Go.MapKept.run_checkKey u2 (by simp [IsKey]) _ _
 rcases findNow_L i es.toList L 0 e2 with ⟨f1,_,f2⟩ | ⟨j,v,f0,f1,_,f2⟩
 ·have hr:(execOp a.eval ⟨dst,.lookup t x y true,ty,pos,aft,g⟩).run P w = .ok (.value (.tuple #[z,.bool false])) w:=by
   simp [execOp,kn.ev hx,kn.ev hy,Instr.lookup,run_underlying u1,Go.MapKept.run_getObj_map e1,hck,Go.MapKept.run_findKey u2 f2,zeroValue,typeInfo,u3,u4,Result.andThen]
  rw [hr,f1]; exact ⟨Ext.refl w,rfl⟩
 ·have hr:(execOp a.eval ⟨dst,.lookup t x y true,ty,pos,aft,g⟩).run P w = .ok (.value (.tuple #[v,.bool true])) w:=by
   simp [execOp,kn.ev hx,kn.ev hy,Instr.lookup,run_underlying u1,Go.MapKept.run_getObj_map e1,hck,Go.MapKept.run_findKey u2 f2,Result.andThen]
  rw [hr,f1]; exact ⟨Ext.refl w,rfl⟩
theorem Qt.lookL1 (k:Nat) {t:TypeId} {x y:Operand} {b:Nat} {L:List (Int × Value)} {i:Int} {z:Value} (ht:mpZ P t = some z) (hx:ev fr x = some (.map (some b))) (hy:ev fr y = some (.int .i64 i)) (hk:G[k]? = some (mapL b L)) :
  Qt P n ⟨dst,.lookup t x y false,ty,pos,aft,g⟩ fr (Sat w0 G) ((kget L i).getD z):=fun a w kn s=>by
 obtain ⟨kt,et,u1,u2,inf,u3,u4⟩:=mpZ_spec ht
 obtain ⟨es,clock,e1,e2,e3⟩:=s.getMapL hk
 have hck:(Instr.checkKey es.isEmpty 10000 kt (.int .i64 i)).run P w = .ok () w:=Go.MapKept.run_checkKey u2 (by simp [IsKey]) _ _
 rcases findNow_L i es.toList L 0 e2 with ⟨f1,_,f2⟩ | ⟨j,v,f0,f1,_,f2⟩
 ·have hr:(execOp a.eval ⟨dst,.lookup t x y false,ty,pos,aft,g⟩).run P w = .ok (.value z) w:=by
   simp [execOp,kn.ev hx,kn.ev hy,Instr.lookup,run_underlying u1,Go.MapKept.run_getObj_map e1,hck,Go.MapKept.run_findKey u2 f2,zeroValue,typeInfo,u3,u4,Result.andThen]
  rw [hr,f1]; exact ⟨Ext.refl w,rfl⟩
 ·have hr:(execOp a.eval ⟨dst,.lookup t x y false,ty,pos,aft,g⟩).run P w = .ok (.value v) w:=by
   simp [execOp,kn.ev hx,kn.ev hy,Instr.lookup,run_underlying u1,Go.MapKept.run_getObj_map e1,hck,Go.MapKept.run_findKey u2 f2,Result.andThen]
  rw [hr,f1]; exact ⟨Ext.refl w,rfl⟩
theorem Sd.mapPut (k:Nat) {t:TypeId} {x y z:Operand} {b:Nat} {L:List (Int × Value)} {i:Int} {v zv:Value} (ht:mpZ P t = some zv) (hx:ev fr x = some (.map (some b))) (hy:ev fr y = some (.int .i64 i)) (hz:ev fr z = some v) (hk:G[k]? = some (mapL b L)) :
  Sd P n ⟨none,.mapUpdate t x y z,ty,pos,aft,g⟩ fr (Sat w0 G) (fun _:Unit=>undef) (fun _=>Sat w0 (G.set k (mapL b (kput L i v)))):=fun a w kn s=>by
 obtain ⟨kt,et,u1,u2,inf,u3,u4⟩:=mpZ_spec ht
 obtain ⟨es,clock,e1,e2,e3⟩:=s.getMapL hk
 have hck:(Instr.checkKey false 10000 kt (.int .i64 i)).run P w = .ok () w:=Go.MapKept.run_checkKey u2 (by simp [IsKey]) _ _
 rcases findNow_L i es.toList L 0 e2 with ⟨f1,fp,f2⟩ | ⟨j,u,f0,f1,fp,f2⟩
 ·have hr:(execOp a.eval ⟨none,.mapUpdate t x y z,ty,pos,aft,g⟩).run P w = .ok .skip { w with heap:=w.heap.setIfInBounds b (.map (es.push { key:=.int .i64 i,val:=v,born:=clock }) (clock + 1)) }:=by
   simp [execOp,kn.ev hx,kn.ev hy,kn.ev hz,Instr.mapUpdate,run_underlying u1,Go.MapKept.run_getObj_map e1,hck,Go.MapKept.run_findKey u2 f2,Result.andThen,Go.MapKept.run_setObj_map _ e1]
  rw [hr]
  refine ⟨(),rfl,s.setMapL hk ?_ (nodup_put e3)⟩
  rw [fp]
  simp [kvv] at e2 ⊢; exact e2
 ·have hje:∃ e,es[j]? = some e∧e.key = .int .i64 i:=by
   have h1:(es.toList.map (fun e=>(e.key,e.val)))[j]? = some (.int .i64 i,u):=by rw [e2]; simp [kvv,f0]
   rw [List.getElem?_map] at h1
   obtain ⟨e,he,hq⟩:=Option.map_eq_some_iff.1 h1
   exact ⟨e,by simpa using he,(Prod.mk.inj hq).1⟩
  obtain ⟨e,he,hek⟩:=hje
  rw [Nat.zero_add] at f2
  have hkey:((es[j]?).map (·.key)).getD (.int .i64 i) = .int .i64 i:=by rw [he]; simp [hek]
  have hst:(Instr.keyThatStays (.int .i64 i) (.int .i64 i)).run P w = .ok (.int .i64 i) w:=by
   simp [Instr.keyThatStays,Instr.sameBits]
  have hr:(execOp a.eval ⟨none,.mapUpdate t x y z,ty,pos,aft,g⟩).run P w = .ok .skip { w with heap:=w.heap.setIfInBounds b (.map (es.modify j fun e=>{ e with key:=.int .i64 i,val:=v }) clock) }:=by
   simp only [execOp,kn.ev hx,kn.ev hy,kn.ev hz,Instr.mapUpdate,Sem.run_bind,run_underlying u1,Go.MapKept.run_getObj_map e1,hck,Go.MapKept.run_findKey u2 f2,Result.andThen,hkey,hst,Go.MapKept.run_setObj_map _ e1,Sem.run_pure]
  rw [hr]
  refine ⟨(),rfl,s.setMapL hk ?_ (nodup_put e3)⟩
  rw [fp]
  refine List.ext_getElem? fun q=>?_
  have h1:(es.toList.map (fun e=>(e.key,e.val)))[q]? = (kvv L)[q]?:=by rw [e2]
  simp only [Array.toList_modify,List.getElem?_map,List.getElem?_modify,kvv,List.getElem?_set] at h1 ⊢
  have hl:=congrArg List.length e2
  simp only [List.length_map,kvv,Array.length_toList] at hl
  by_cases hq:j = q
  ·subst hq
   have hlt:j < L.length:=(List.getElem?_eq_some_iff.1 f0).1
   simp [he,hlt]
  ·simp only [if_neg hq,h1]
   cases hqq:es.toList[q]? with
   | none=>rw [hqq] at h1; simpa using h1
   | some e'=>rw [hqq] at h1; simpa using h1
theorem Qt.lenL (k:Nat) {t:TypeId} {x:Operand} {b:Nat} {L:List (Int × Value)} {z:Value} (ht:mpZ P t = some z) (hx:ev fr x = some (.map (some b))) (hk:G[k]? = some (mapL b L)) :
  Qt P n ⟨dst,.call { callee:=.builtin .len,args:=#[x],argTypes:=#[t] },ty,pos,aft,g⟩ fr (Sat w0 G) (.int .i64 L.length):=fun a w kn s=>by
 obtain ⟨kt,et,u1,_⟩:=mpZ_spec ht
 obtain ⟨es,clock,e1,e2,e3⟩:=s.getMapL hk
 have hl:=congrArg List.length e2
 simp only [List.length_map,kvv,Array.length_toList] at hl
 have hr:(execOp a.eval ⟨dst,.call { callee:=.builtin .len,args:=#[x],argTypes:=#[t] },ty,pos,aft,g⟩).run P w = .ok (.value (.int .i64 L.length)) w:=by
  simp [execOp,kn.ev hx,resolve,invoke,builtin,Builtin.len_,run_underlying u1,Go.MapKept.run_getObj_map e1,goInt,hl,Result.andThen]
 rw [hr]; exact ⟨Ext.refl w,rfl⟩
theorem Sat.cellSet {w:World} {k b:Nat} {cs:List Value} {e:TypeId} (s:Sat w0 G w) (hk:G[k]? = some (blk b cs e)) (o:Nat) (v:Value):Sat w0 (G.set k (blk b (cs.set o v) e)) (w.setCell ⟨b,o,none⟩ v):=by
 rw [setCell_row (s.getBlk hk).1]; exact s.setBlk hk _
theorem Sat.drewS {w:World} (s:Sat w0 G w):Sat w0 G w.drew:=by
 obtain ⟨h1,h2,h3⟩:=s
 exact ⟨h1.trans (Ext.drew w),h2,h3⟩
theorem Sat.cellAt {w:World} {k b o:Nat} {cs:List Value} {e:TypeId} {v:Value} (s:Sat w0 G w) (hk:G[k]? = some (blk b cs e)) (hc:cs[o]? = some v):w.cell? ⟨b,o,none⟩ = some v:=by
 simp [World.cell?,(s.getBlk hk).1,hc]
end
end Go.Vg
set_option linter.unusedVariables false
set_option linter.unusedSimpArgs false
namespace Go.Vg
open Go.RowKit (Below)
open Enc (R)
section
variable {α β:Type}
def vmap (f:α→β) (L:List (Int × α)):List (Int × β):=L.map fun e=>(e.1,f e.2)
theorem kget_vmap (f:α→β) (L:List (Int × α)) (k:Int):kget (vmap f L) k = (kget L k).map f:=by
 induction L with
 | nil=>rfl
 | cons a L ih =>
  obtain ⟨a,b⟩:=a
  show (if a = k then some (f b) else kget (vmap f L) k) = _
  by_cases h:a = k
  ·rw [if_pos h]; simp [kget,h]
  ·rw [if_neg h,ih]; simp [kget,h]
theorem kput_vmap (f:α→β) (L:List (Int × α)) (k:Int) (v:α):kput (vmap f L) k (f v) = vmap f (kput L k v):=by
 induction L with
 | nil=>rfl
 | cons a L ih =>
  obtain ⟨a,b⟩:=a
  show (if a = k then (k,f v) :: vmap f L else (a,f b) :: kput (vmap f L) k (f v)) = _
  by_cases h:a = k
  ·rw [if_pos h]; simp [kput,h,vmap]
  ·rw [if_neg h,ih]; simp [kput,h,vmap]
end
theorem cellV {w:World} {b o:Nat} {cs:List Value} {e:TypeId} {v:Value} (h:w.heap[b]? = some (.cells cs.toArray e (0,0))) (hv:cs[o]? = some v):w.cell? ⟨b,o,none⟩ = some v:=by
 simp [World.cell?,h,hv]
section
variable {w0:World} {G:List Ch} {P:Program} {n:Nat} {fr:Fr} {dst:Option Tmp} {ty:TypeId} {pos:String} {aft:Array Edge} {gd:Option (Nat × Bool)}
theorem Qt.ldFz {t e:TypeId} {x:Operand} {b o:Nat} {cs:List Value} {v:Value} {H:Hp} (k:Nat) (hk:G[k]? = some (fz H)) (ht:tySz P t = some (1,false)) (hx:ev fr x = some (.pointer (some ⟨b,o,none⟩))) (hb:blk b cs e H) (hv:cs[o]? = some v) :
  Qt P n ⟨dst,.load t x,ty,pos,aft,gd⟩ fr (Sat w0 G) v:=Qt.ld ht hx fun w s=>cellV (Held.fz k hk w s _ _ hb) hv
end
theorem star_swap {A C X:Ch} {h:Hp}:star A (star C X) h→star C (star A X) h:=by
 rintro ⟨p,r,hp,⟨c,x,hc,hx,hd,l1,l2⟩,hd2,l3,l4⟩
 have dis:∀ (u v:Hp),(∀ b,p b = none ∨ r b = none)→u.le r→∀ b,p b = none ∨ u b = none:=fun u v hd hu b=>by
  rcases hd b with h | h
  ·exact .inl h
  ·right
   cases e:u b with
   | none=>rfl
   | some o=>rw [hu b o e] at h; cases h
 refine ⟨c,p.over x,hc,⟨p,x,hp,hx,dis x x hd2 l2,Hp.le_over _ _,fun b o e=>?_⟩,fun b=>?_,fun b o e=>l4 b o (l1 b o e),Hp.over_le l3 fun b o e=>l4 b o (l2 b o e)⟩
 ·rcases dis x x hd2 l2 b with h1 | h1
  ·unfold Hp.over; rw [h1]; exact e
  ·rw [h1] at e; cases e
 ·rcases dis c c hd2 l1 b with h1 | h1
  ·rcases hd b with h2 | h2
   ·exact .inl h2
   ·right; unfold Hp.over; rw [h1]; exact h2
  ·exact .inl h1
theorem star_monoR {A B C:Ch} {h:Hp} (hbc:∀ p,B p→C p):star A B h→star A C h:=fun ⟨p,q,a,b,c⟩=>⟨p,q,a,hbc q b,c⟩
theorem stars_out:∀ {A B:List Ch} {C:Ch} {h:Hp},stars (A ++ C :: B) h→star C (stars (A ++ B)) h
 | [],B,C,h,s=>s
 | a :: A,B,C,h,s=>star_swap (star_monoR (fun p hp=>stars_out (A:=A) hp) s)
theorem stars_in:∀ {A B:List Ch} {C:Ch} {h:Hp},star C (stars (A ++ B)) h→stars (A ++ C :: B) h
 | [],B,C,h,s=>s
 | a :: A,B,C,h,s=>star_monoR (fun p hp=>stars_in (A:=A) hp) (star_swap s)
abbrev RowAt:=(Option Nat × Nat) × List Int
def rwc (e:TypeId) (z:RowAt):Ch:=row nilH e (rowV z.1 z.2.length) z.2
def rws (e:TypeId) (L:List (Int × RowAt)):List Ch:=L.map fun x=>rwc e x.2
def rwv (L:List (Int × RowAt)):List (Int × Value):=vmap (fun z:RowAt=>rowV z.1 z.2.length) L
def rwx (L:List (Int × RowAt)):List (Int × List Int):=vmap Prod.snd L
def vdel {β:Type} (L:List (Int × β)) (k:Int):List (Int × β):=match L with
  | []=>[]
  | (a,b) :: L=>if a = k then L else (a,b) :: vdel L k
theorem vdel_some {β:Type} {L:List (Int × β)} {k:Int} {v:β} (h:kget L k = some v):∃ A B,L = A ++ (k,v) :: B∧vdel L k = A ++ B∧∀ u,kput L k u = A ++ (k,u) :: B:=by
 induction L with
 | nil=>cases h
 | cons a L ih =>
  obtain ⟨a,b⟩:=a
  by_cases e:a = k
  ·simp [kget,e] at h; subst h; subst e
   exact ⟨[],L,rfl,by simp [vdel],fun u=>by simp [kput]⟩
  ·simp [kget,e] at h
   obtain ⟨A,B,h1,h2,h3⟩:=ih h
   exact ⟨(a,b) :: A,B,by rw [h1]; rfl,by simp [vdel,e,h2],fun u=>by simp [kput,e,h3]⟩
theorem vdel_none {β:Type} {L:List (Int × β)} {k:Int} (h:kget L k = none):vdel L k = L∧∀ u,kput L k u = L ++ [(k,u)]:=by
 induction L with
 | nil=>exact ⟨rfl,fun u=>rfl⟩
 | cons a L ih =>
  obtain ⟨a,b⟩:=a
  by_cases e:a = k
  ·simp [kget,e] at h
  ·simp [kget,e] at h
   obtain ⟨h1,h2⟩:=ih h
   exact ⟨by simp [vdel,e,h1],fun u=>by simp [kput,e,h2]⟩
section
variable {w0 w:World} {G:List Ch}
theorem rwv_get (L:List (Int × RowAt)) (k:Int):(kget (rwv L) k).getD (.slice none 0 0) = rowV ((kget L k).getD ((none,0),[])).1 ((kget L k).getD ((none,0),[])).2.length:=by
 unfold rwv; rw [kget_vmap]
 cases kget L k <;> rfl
theorem rwx_get (L:List (Int × RowAt)) (k:Int):((kget (rwx L) k).getD []) = ((kget L k).getD ((none,0),[])).2:=by
 unfold rwx; rw [kget_vmap]
 cases kget L k <;> rfl
theorem rwv_put {L:List (Int × RowAt)} {k:Int} (z:RowAt):kput (rwv L) k (rowV z.1 z.2.length) = rwv (kput L k z):=kput_vmap (fun z:RowAt=>rowV z.1 z.2.length) L k z
theorem rwx_put {L:List (Int × RowAt)} {k:Int} (z:RowAt):kput (rwx L) k z.2 = rwx (kput L k z):=kput_vmap Prod.snd L k z
end
section
variable {P:Program} {n:Nat} {fr:Fr} {dst:Option Tmp} {ty:TypeId} {pos:String} {aft:Array Edge} {g:Option (Nat × Bool)} {S:As} {w0:World} {G:List Ch}
theorem Sd.callV {f:FuncId} {cs:List Value} {xo:Operand} {xs:List Operand} {ts:Array TypeId} {vs:List Value} (he:Ent P f) (hv:ev fr xo = some (.func (.func f) #[] cs.toArray)) (hx:evs fr xs = some vs) {ι:Type} {val:ι→Value} {S':ι→As}
  (hc:∀ w,S w→Calls P f (vs ++ cs).toArray w (fun e w'=>∃ i,e = .returned (val i)∧S' i w')) :
  Sd P n ⟨dst,.call { callee:=.value xo,args:=xs.toArray,argTypes:=ts },ty,pos,aft,g⟩ fr S val S':=fun a w k s=>by
 rw [run_enterV he hv hx k,show vs.toArray ++ cs.toArray = (vs ++ cs).toArray by simp]
 exact hc w s
end
def fldTy (P:Program) (s f:Nat):Option (Nat × Nat):=match P.underlying s with
  | some (.struct fs)=>(fs[f]?).map fun x=>(x.type,x.offset)
  | _=>none
theorem Pu.fieldS {P:Program} {n:Nat} {fr:Fr} {dst:Option Tmp} {ty:TypeId} {pos:String} {aft:Array Edge} {g:Option (Nat × Bool)} {s f t off:Nat} {x:Operand} {cs:List Value} {v:Value} (hf:fldTy P s f = some (t,off)) (ht:tySz P t = some (1,false)) (hx:ev fr x = some (.agg cs.toArray)) (hv:cs[off]? = some v) :
  Pu P n ⟨dst,.field s x f,ty,pos,aft,g⟩ fr v:=fun a k w=>by
 unfold fldTy at hf
 split at hf
 ·rename_i fs hu
  obtain ⟨fd,h1,h2⟩:=Option.map_eq_some_iff.1 hf
  obtain ⟨h3,h4⟩:=Prod.mk.inj h2
  subst h3; subst h4
  simp [execOp,k.ev hx,Instr.field,run_underlying hu,h1,asAgg,part,run_isAgg_of ht,hv,Result.andThen]
 ·cases hf
end Go.Vg
set_option linter.unusedSimpArgs false
set_option linter.unusedVariables false
namespace Go.Vg
open Go.RowKit (Below)
open Enc (R)

theorem setCells_blk (b:Nat) (e:TypeId) (m:Nat × Nat):∀ (vs:List Value) (o:Nat) (cur:List Value) (w:World),w.heap[b]? = some (.cells cur.toArray e m)→o + vs.length ≤ cur.length →
  (w.setCells b o vs).heap[b]? = some (.cells (cur.take o ++ vs ++ cur.drop (o + vs.length)).toArray e m)
 | [],o,cur,w,h,_=>by simp only [World.setCells,List.length_nil,Nat.add_zero,List.append_nil,List.take_append_drop]; exact h
 | v :: r,o,cur,w,h,hl=>by
  simp only [List.length_cons] at hl
  have hb:b < w.heap.size:=(Array.getElem?_eq_some_iff.1 h).1
  have h1:(w.setCell ⟨b,o,none⟩ v).heap[b]? = some (.cells (cur.set o v).toArray e m):=by
   simp only [World.setCell,Array.getElem?_modify,if_true,h,Option.map_some]
   simp [List.setIfInBounds_toArray]
  have h2:=setCells_blk b e m r (o + 1) (cur.set o v) (w.setCell ⟨b,o,none⟩ v) h1 (by simp; omega)
  rw [World.setCells,h2]
  congr 3
  have e1:(cur.set o v).take (o + 1) = cur.take o ++ [v]:=by
   rw [List.take_add_one,List.take_set_of_le (Nat.le_refl o),List.getElem?_set_self (by omega)]; rfl
  have e2:(cur.set o v).drop (o + 1 + r.length) = cur.drop (o + (r.length + 1)):=by
   rw [List.drop_set_of_lt (by omega)]; congr 1; omega
  rw [e1,e2]
  simp
theorem setCells_other (b k:Nat) (hne:k ≠ b):∀ (vs:List Value) (o:Nat) (w:World),(w.setCells b o vs).heap[k]? = w.heap[k]?
 | [],_,_=>rfl
 | v :: r,o,w=>by
  rw [World.setCells,setCells_other b k hne r (o + 1)]
  simp only [World.setCell,Array.getElem?_modify,if_neg (Ne.symm hne)]
theorem setCells_same (b:Nat):∀ (vs:List Value) (o:Nat) (w:World),(w.setCells b o vs).heap.size = w.heap.size∧(w.setCells b o vs).os = w.os∧(w.setCells b o vs).tape = w.tape∧(w.setCells b o vs).output = w.output
 | [],_,_=>⟨rfl,rfl,rfl,rfl⟩
 | v :: r,o,w=>by
  rw [World.setCells]
  have h:=setCells_same b r (o + 1) (w.setCell ⟨b,o,none⟩ v)
  simpa [World.setCell] using h

def unmarked (m:Nat × Nat) (n:Nat):Prop:=∀ o,o < n→¬ (m.1 ≤ o∧o < m.2)
def rowM {α:Type} [Enc α] (e:TypeId) (v:Value) (xs:List α):Ch:=fun h =>
  (v = .slice none 0 0∧xs = []) ∨
  ∃ g cap cs sp m,v = .slice (some ⟨g,0,none⟩) xs.length cap∧h g = some (.cells (cs ++ sp).toArray e m)∧xs.length ≤ cap∧cap ≤ maxLen∧(cs ++ sp).length = cap * Enc.sz α∧RF nilH xs cs∧unmarked m (cap * Enc.sz α)
section
variable {α:Type} [Enc α]
theorem rowM_R {e:TypeId} {v:Value} {xs:List α} {h:Hp}:rowM e v xs h→R h xs [v]
 | .inl ⟨h1,h2⟩=>by subst h1; subst h2; exact ⟨none,0,rfl,by simp,by simp,.inl rfl⟩
 | .inr ⟨g,cap,cs,sp,m,h1,h2,h3,h4,h5,h6,_⟩=>by
  subst h1
  exact ⟨_,cap,rfl,h3,h4,.inr ⟨g,0,cs,rfl,h6.mono (nilH_le _),⟨_,e,_,h2,fun j v hj=>by
   rw [Nat.zero_add,List.getElem?_toArray,List.getElem?_append_left (List.getElem?_eq_some_iff.1 hj).1]
   exact hj⟩⟩⟩
theorem rowM_fits {e:TypeId} {q:Option Nat × Nat} {m:Nat} {xs:List α} {p:Hp} (hp:rowM e (rowV q m) xs p):m = xs.length∧m ≤ q.2∧q.2 ≤ maxLen:=by
 rcases hp with ⟨hv,rfl⟩ | ⟨g,cap,cs,sp,mm,hv,_,hle,hm,_⟩
 ·simp only [rowV,Value.slice.injEq] at hv
  obtain ⟨_,rfl,h2⟩:=hv
  rw [h2]; exact ⟨rfl,Nat.le_refl _,Nat.zero_le _⟩
 ·simp only [rowV,Value.slice.injEq] at hv
  obtain ⟨_,rfl,h2⟩:=hv
  rw [h2]; exact ⟨rfl,hle,hm⟩
theorem rowM_shape {e:TypeId} {v:Value} {xs:List α} {p:Hp} (h:rowM e v xs p):∃ q:Option Nat × Nat,v = .slice (q.1.map fun g=>⟨g,0,none⟩) xs.length q.2:=by
 rcases h with ⟨rfl,rfl⟩ | ⟨g,cap,cs,sp,m,rfl,_⟩
 ·exact ⟨(none,0),rfl⟩
 ·exact ⟨(some g,cap),rfl⟩
variable {w0 w:World} {G:List Ch}
theorem Sat.row_fitsM {k m:Nat} {e:TypeId} {q:Option Nat × Nat} {xs:List α} (h:Sat w0 G w) (hk:G[k]? = some (rowM e (rowV q m) xs)):m = xs.length∧m ≤ q.2∧q.2 ≤ maxLen:=by
 obtain ⟨p,hp,_⟩:=h.get k hk
 exact rowM_fits hp
theorem Sat.relenM {e:TypeId} {q:Option Nat × Nat} {m:Nat} {xs:List α} (k:Nat) (h:Sat w0 G w) (hk:G[k]? = some (rowM e (rowV q m) xs)):Sat w0 (G.set k (rowM e (rowV q xs.length) xs)) w :=
 h.weaken k hk _ fun p hp=>by rw [← (h.row_fitsM hk).1]; exact hp
theorem Sat.nilRowM (e:TypeId) (h:Sat w0 G w):Sat w0 (G ++ [rowM e (rowV (none,0) 0) ([]:List α)]) w:=h.addEmpty _ (fun p=>.inl ⟨rfl,rfl⟩)
theorem Rd.ofRowM (k:Nat) {e:TypeId} {v:Value} {xs:List α} (hk:G[k]? = some (rowM e v xs)):Rd (Sat w0 G) xs [v]:=fun w s=>by
 obtain ⟨p,hp,hl,_⟩:=s.get k hk
 exact Enc.mono hl (rowM_R hp)
theorem Sat.appendM [Flat α] {P:Program} (s:Sat w0 G w) {k:Nat} {t e ty:TypeId} {by':Nat} {z:Value} {v:Value} {xs ys:List α} {news:List Value} (hk:G[k]? = some (rowM e v xs))
  (ht:slTy P t = some (e,Enc.sz α,by')) (hz:zeroOf P e = some z) (hzs:z.cells.size = Enc.sz α) (hy:RF nilH ys news) {q:Addr} {m c:Nat} (hm:ys.length = m) (hnews:∀ j u,news[j]? = some u→w.cell? (q.add j) = some u)
  (hbytes:(xs.length + m) * by' ≤ 140737488355328) (h63:xs.length + m ≤ maxLen) :
  ∃ v' w',(Builtin.append_ #[t,t] ty #[v,.slice (some q) m c]).run P w = .ok v' w'∧Sat w0 (G.set k (rowM e v' (xs ++ ys))) w':=by
 obtain ⟨hu,i,hi,hsz',hby⟩:=slTy_spec ht
 subst hby
 obtain ⟨i',hi',hz'⟩:=Option.bind_eq_some_iff.1 hz
 rw [hi] at hi'; cases hi'
 have h63':((xs.length + m:Nat):Int) ≤ 9223372036854775807:=by unfold maxLen at h63; omega
 subst hm
 have hnl:news.length = ys.length * i.size:=by rw [hy.length,hsz']
 obtain ⟨p0,hp0,hl0,hb0⟩:=s.get k hk
 have fresh:∀ (cs:List Value) (cap:Nat),RF nilH xs cs→xs.length + ys.length ≤ cap→cap ≤ maxLen →
   Sat w0 (G.set k (rowM e (.slice (some ⟨w.heap.size,0,none⟩) (xs ++ ys).length cap) (xs ++ ys))) (w.drew.alloc (.cells (cs.toArray ++ news.toArray ++ Builtin.zeroCells z.cells (cap - (xs.length + ys.length))) e)):=by
  intro cs cap hx hcap hcm
  refine s.turn k hk _ rfl rfl rfl (by simp) fun p hp hl hb=>?_
  refine ⟨fun b hb' hn=>(Below.heap_alloc w.drew _ b (by simpa using hb')),fun b=>if b = w.heap.size then some (.cells (cs.toArray ++ news.toArray ++ Builtin.zeroCells z.cells (cap - (xs.length + ys.length))) e (0,0)) else none,.inr ?_,fun b o hbo=>?_⟩
  ·refine ⟨w.heap.size,cap,cs ++ news,(Builtin.zeroCells z.cells (cap - (xs.length + ys.length))).toList,(0,0),rfl,by simp,by simpa using hcap,hcm,?_,RF.append hx hy,fun o _ h=>by omega⟩
   simp only [List.length_append,hx.length,hy.length,Array.length_toList,size_zeroCells,hzs,← Nat.add_mul]
   congr 1
   omega
  ·dsimp only at hbo
   split at hbo
   ·rename_i hbw
    subst hbw; cases hbo
    exact ⟨.inr (Nat.le_refl _),heap_alloc_new w.drew _⟩
   ·cases hbo
 rcases hp0 with ⟨rfl,rfl⟩ | ⟨g,cap,cs,sp,mk,rfl,hgp,hlc,hcm,hlen,hx,hmk⟩
 ·by_cases hm:ys.length = 0
  ·have hys:ys = []:=List.eq_nil_of_length_eq_zero hm
   subst hys
   have hn:news = []:=hy
   subst hn
   refine ⟨.slice none 0 0,w,?_,?_⟩
   ·simp [Builtin.append_,run_underlying hu,sizeOf,typeInfo,hi,Builtin.lenOf,Builtin.firstCells,loadCells,loadCellsFrom]
   ·exact s.weaken k hk _ fun p hp=>.inl ⟨rfl,rfl⟩
  ·have hr:=run_append_nil (P:=P) w t ty e i z hu hi hz' q ys.length c news hnl hnews (by omega) (by simpa using h63') (by have hb:=hbytes; simp only [List.length_nil,Nat.zero_add] at hb; omega)
   have hge:=grownCap_ge w ys.length 0 e
   have hle:=grownCap_le_maxLen w ys.length 0 e (by simpa using h63)
   have:=fresh [] (grownCap w ys.length 0 e) rfl (by simpa using hge) hle
   simp only [List.nil_append,List.length_nil,Nat.zero_add,Array.empty_append] at this
   exact ⟨_,_,hr,by simpa using this⟩
 ·have hwg:=hl0 _ _ hgp
  have hcsl:=hx.length
  by_cases hroom:xs.length + ys.length ≤ cap
  ·have hfit:xs.length * i.size + news.length ≤ (cs ++ sp).length:=by
    simp only [hlen,hnl,hsz',← Nat.add_mul]
    exact Nat.mul_le_mul_right _ hroom
   have hwg':w.heap[g]? = some (.cells (cs ++ sp).toArray e mk):=hwg
   have hr:=run_append_room_cells (P:=P) w t ty e i hu hi g 0 xs.length cap q ys.length c news hnl hnews hy.one hroom
    (fun j hj=>by
     have hj2:xs.length * i.size + j < (cs ++ sp).length:=by omega
     rw [Nat.zero_add]; simp only [World.cell?,hwg']; simp only [List.size_toArray,Array.getElem?_eq_getElem (xs:=(cs ++ sp).toArray) (i:=xs.length * i.size + j) (by simpa using hj2)]; rfl)
    (fun j hj=>by
     have h1:=hmk (xs.length * i.size + j) (by rw [← hlen]; omega)
     simp only [World.frozen?,hwg',Nat.zero_add,Bool.and_eq_false_iff,decide_eq_false_iff_not]
     omega)
   refine ⟨_,_,hr,?_⟩
   simp only [Nat.zero_add]
   have hB:=setCells_blk g e mk news (xs.length * i.size) (cs ++ sp) w hwg' hfit
   have harr:(cs ++ sp).take (xs.length * i.size) ++ news ++ (cs ++ sp).drop (xs.length * i.size + news.length) = (cs ++ news) ++ sp.drop news.length:=by
    rw [hsz',← hcsl]
    simp [List.drop_append]
   rw [harr] at hB
   obtain ⟨z1,z2,z3,z4⟩:=setCells_same g news (xs.length * i.size) w
   refine s.turn k hk _ z2 z3 z4 (by rw [z1]; exact Nat.le_refl _) fun p hp hl hb=>?_
   have hpg:p g ≠ none:=by
    rcases hp with ⟨hv,_⟩ | ⟨g',cap',cs',sp',m',hv,hgp',_⟩
    ·cases hv
    ·simp only [Value.slice.injEq,Option.some.injEq,Addr.mk.injEq,and_true,true_and] at hv
     obtain ⟨rfl,rfl⟩:=hv
     rw [hgp']; simp
   refine ⟨fun b hb' hn=>setCells_other g b (fun e'=>by subst e'; exact hpg hn) _ _ _,fun b=>if b = g then some (.cells ((cs ++ news) ++ sp.drop news.length).toArray e mk) else none,.inr ?_,fun b o hbo=>?_⟩
   ·refine ⟨g,cap,cs ++ news,sp.drop news.length,mk,by simp,by simp,by simpa using hroom,hcm,?_,RF.append hx hy,hmk⟩
    have h1:=hlen
    simp only [List.length_append,List.length_drop] at h1 ⊢
    have h2:cs.length + news.length ≤ cap * Enc.sz α:=by rw [hcsl,hnl,hsz',← Nat.add_mul]; exact Nat.mul_le_mul_right _ hroom
    omega
   ·dsimp only at hbo
    split at hbo
    ·rename_i hbg; subst hbg; cases hbo
     exact ⟨.inl hpg,hB⟩
    ·cases hbo
  ·have holds:∀ j u,cs[j]? = some u→w.cell? ((⟨g,0,none⟩:Addr).add j) = some u:=fun j u hj=>by
    have hw:w.heap[g]? = some (.cells (cs ++ sp).toArray e mk):=hwg
    rw [add_lit]
    simp [World.cell?,hw,List.getElem?_append_left (List.getElem?_eq_some_iff.1 hj).1,hj]
   have hr:=run_append_grow (P:=P) w t ty e i z hu hi hz' ⟨g,0,none⟩ xs.length cap cs (by rw [hcsl,hsz']) holds q ys.length c news hnl hnews (by omega) h63' (growslice_fits (by omega) hbytes)
   have hge:=grownCap_ge w (xs.length + ys.length) cap e
   have hle:=grownCap_le_maxLen w (xs.length + ys.length) cap e h63
   have:=fresh cs (grownCap w (xs.length + ys.length) cap e) hx hge hle
   exact ⟨_,_,hr,by simpa using this⟩
section
variable {P:Program} {n:Nat} {fr:Fr} {dst:Option Tmp} {ty:TypeId} {pos:String} {aft:Array Edge} {g:Option (Nat × Bool)} {S:As}
theorem Sd.appRM [Flat α] (k:Nat) {x y:Operand} {t e:TypeId} {by':Nat} {z v vy:Value} {xs ys:List α} (hk:G[k]? = some (rowM e v xs))
  (ht:slTy P t = some (e,Enc.sz α,by')) (hz:zeroOf P e = some z) (hzs:z.cells.size = Enc.sz α) (hx:ev fr x = some v) (hy:ev fr y = some vy) (hR:Rd (Sat w0 G) ys [vy])
  (hlt:xs.length + ys.length < 1099511627776) (hby:by' ≤ 128) :
  Sd P n ⟨dst,.call { callee:=.builtin .append,args:=#[x,y],argTypes:=#[t,t] },ty,pos,aft,g⟩ fr (Sat w0 G) (fun q=>rowV q (xs ++ ys).length) (fun q=>Sat w0 (G.set k (rowM e (rowV q (xs ++ ys).length) (xs ++ ys)))):=fun a w kn s=>by
 have hbytes:(xs.length + ys.length) * by' ≤ 140737488355328:=by
  have:=Nat.mul_le_mul (show xs.length + ys.length ≤ 1099511627776 by omega) hby; omega
 have h63:xs.length + ys.length ≤ maxLen:=by unfold maxLen; omega
 obtain ⟨p',cap',e',s1,s2,s3⟩:=hR w s
 simp only [List.cons.injEq,and_true] at e'
 subst e'
 have fin:∀ v' w',(Builtin.append_ #[t,t] ty #[v,.slice p' ys.length cap']).run P w = .ok v' w'→Sat w0 (G.set k (rowM e v' (xs ++ ys))) w' →
   solidRes P (fun q=>rowV q (xs ++ ys).length) (fun q=>Sat w0 (G.set k (rowM e (rowV q (xs ++ ys).length) (xs ++ ys)))) ((execOp a.eval ⟨dst,.call { callee:=.builtin .append,args:=#[x,y],argTypes:=#[t,t] },ty,pos,aft,g⟩).run P w):=fun v' w' hr hs=>by
  rw [run_builtin_append kn hx hy hr]
  have hkl:k < (G.set k (rowM e v' (xs ++ ys))).length:=by simpa using (List.getElem?_eq_some_iff.1 hk).1
  obtain ⟨p,hp,_⟩:=hs.get k (List.getElem?_set_self (by simpa using hkl))
  obtain ⟨q',hq⟩:=rowM_shape hp
  exact ⟨q',hq,by show Sat w0 (G.set k (rowM e (rowV q' (xs ++ ys).length) (xs ++ ys))) w'; rw [show rowV q' (xs ++ ys).length = v' from hq.symm]; exact hs⟩
 cases p' with
 | none =>
  have hnil:ys = []:=by
   rcases s3 with h | ⟨b,o,cs,hq,_⟩
   ·exact h
   ·cases hq
  subst hnil
  obtain ⟨p,hp,_⟩:=s.get k hk
  obtain ⟨q',hq⟩:=rowM_shape hp
  obtain ⟨hu,i,hi,_,_⟩:=slTy_spec ht
  have hlc:xs.length ≤ q'.2:=by
   have h2:=s.row_fitsM (k:=k) (e:=e) (xs:=xs) (q:=q') (m:=xs.length) (by rw [hk,hq]; rfl)
   exact h2.2.1
  refine fin v w ?_ (by
   have e1:G.set k (rowM e v (xs ++ [])) = G:=by
    rw [List.append_nil]
    obtain ⟨hl,he⟩:=List.getElem?_eq_some_iff.1 hk
    exact he ▸ List.set_getElem_self hl
   rw [e1]; exact s)
  subst hq
  obtain ⟨o,c⟩:=q'
  have hlc':xs.length ≤ c:=hlc
  cases o <;> simp [Builtin.append_,run_underlying hu,sizeOf,typeInfo,hi,Builtin.lenOf,Builtin.firstCells,storeCells,hlc']
 | some q =>
  rcases s3 with rfl | ⟨b,o,cs,hq,hr,ha⟩
  ·obtain ⟨v',w',hr',hs⟩:=s.appendM (ty:=ty) hk ht hz hzs (ys:=[]) (news:=[]) (by simp [RF]) (q:=q) (c:=cap') rfl (by simp) hbytes h63
   exact fin v' w' hr' hs
  ·cases hq
   obtain ⟨v',w',hr',hs⟩:=s.appendM (ty:=ty) hk ht hz hzs hr.any (q:=⟨b,o,none⟩) (c:=cap') rfl (fun j u hj=>by rw [add_lit]; exact ha.cell hj) hbytes h63
   exact fin v' w' hr' hs
theorem Sd.app1M [Flat α] (k k1:Nat) {x y:Operand} {t e e':TypeId} {by':Nat} {z v:Value} {xs:List α} (y0:α) {news:List Value} {b c:Nat}
  (hk:G[k]? = some (rowM e v xs)) (hk1:G[k1]? = some (blk b news e'))
  (ht:slTy P t = some (e,Enc.sz α,by')) (hz:zeroOf P e = some z) (hzs:z.cells.size = Enc.sz α) (hx:ev fr x = some v) (hy:ev fr y = some (.slice (some ⟨b,0,none⟩) 1 c))
  (hr:R nilH y0 news) (hlt:xs.length < 1099511627776) (hby:by' ≤ 128) :
  Sd P n ⟨dst,.call { callee:=.builtin .append,args:=#[x,y],argTypes:=#[t,t] },ty,pos,aft,g⟩ fr (Sat w0 G) (fun q=>rowV q (xs ++ [y0]).length) (fun q=>Sat w0 (G.set k (rowM e (rowV q (xs ++ [y0]).length) (xs ++ [y0])))):=fun a w kn s=>by
 have hbytes:(xs.length + 1) * by' ≤ 140737488355328:=by
  have:=Nat.mul_le_mul (show xs.length + 1 ≤ 1099511627776 by omega) hby; omega
 obtain ⟨v',w',hr',hs⟩:=s.appendM (ty:=ty) hk ht hz hzs (RF.single hr) (q:=⟨b,0,none⟩) (m:=1) (c:=c) rfl (fun j u hj=>by
  have hb:=(s.getBlk hk1).1
  rw [add_lit]
  simp [World.cell?,hb,hj]) hbytes (by unfold maxLen; omega)
 rw [run_builtin_append kn hx hy hr']
 have hkl:k < (G.set k (rowM e v' (xs ++ [y0]))).length:=by simpa using (List.getElem?_eq_some_iff.1 hk).1
 obtain ⟨p,hp,_⟩:=hs.get k (List.getElem?_set_self (by simpa using hkl))
 obtain ⟨q',hq⟩:=rowM_shape hp
 exact ⟨q',hq,by show Sat w0 (G.set k (rowM e (rowV q' (xs ++ [y0]).length) (xs ++ [y0]))) w'; rw [show rowV q' (xs ++ [y0]).length = v' from hq.symm]; exact hs⟩
theorem Sd.convM {α:Type} [Enc α] (k:Nat) {x:Operand} {t e e':TypeId} {b len:Nat} {cs:List Value} (xs:List α) (hk:G[k]? = some (blk b cs e')) (ht:P.underlying t = some (.slice e)) (he:P.underlying e = some (.int .u8))
  (hx:ev fr x = some (.slice (some ⟨b,0,none⟩) len len)) (hl:xs.length = len) (hm:len ≤ maxLen) (hr:RF nilH xs cs) :
  Sd P n ⟨dst,.convert t t x,ty,pos,aft,g⟩ fr (Sat w0 G) (fun _:Unit=>rowV (some b,len) len) (fun _=>Sat w0 (G.set k (rowM e' (rowV (some b,len) len) xs))):=fun a w kn s=>by
 have hb:=(s.getBlk hk).1
 have hbs:b < w.heap.size:=(Array.getElem?_eq_some_iff.1 hb).1
 have hsh:w.shape? b = some (e',cs.length):=by simp [World.shape?,hb]
 have hrun:(execOp a.eval ⟨dst,.convert t t x,ty,pos,aft,g⟩).run P w = .ok (.value (rowV (some b,len) len)) (w.freeze ⟨b,cs.length,none⟩ 1):=by
  simp [execOp,kn.ev hx,convert,run_underlying ht,run_underlying he,markStringish,hsh,rowV]
 rw [hrun]
 refine ⟨(),rfl,?_⟩
 have hfz:∀ c,(w.freeze ⟨b,cs.length,none⟩ 1).heap[c]? = if b = c then some (.cells cs.toArray e' (cs.length,cs.length + 1)) else w.heap[c]?:=fun c=>by
  simp only [World.freeze,Nat.one_ne_zero,if_false,Array.getElem?_modify]
  split
  ·rename_i h; subst h; rw [hb]; simp
  ·rfl
 refine s.turn k hk _ (by simp [World.freeze]) (by simp [World.freeze]) (by simp [World.freeze]) (by simp [World.freeze]) fun p hp hl' hb'=>?_
 refine ⟨fun c hc hn=>?_,fun c=>if c = b then some (.cells cs.toArray e' (cs.length,cs.length + 1)) else none,.inr ?_,fun c o hco=>?_⟩
 ·have hne:b ≠ c:=fun e=>by subst e; rw [show p b = some (.cells cs.toArray e' (0,0)) from hp] at hn; cases hn
  rw [hfz,if_neg hne]
 ·have hlen:=hr.length
  refine ⟨b,len,cs,[],(cs.length,cs.length + 1),by rw [hl]; rfl,by simp,by omega,hm,by simp [hlen,hl],hr,fun o ho h=>?_⟩
  rw [hlen,hl] at h
  omega
 ·dsimp only at hco
  split at hco
  ·rename_i hcb; subst hcb; cases hco
   refine ⟨.inl (by rw [show p c = some (.cells cs.toArray e' (0,0)) from hp]; simp),?_⟩
   rw [hfz,if_pos rfl]
  ·cases hco
theorem Sd.callMV (k:Nat) {C:Ch} {f:FuncId} {cs:List Value} {xo:Operand} {xs:List Operand} {ts:Array TypeId} {vs:List Value} (he:Ent P f) (hv:ev fr xo = some (.func (.func f) #[] cs.toArray)) (hx:evs fr xs = some vs) (hk:G[k]? = some C)
  {ι:Type} {val:ι→Value} {C':ι→Ch} (hc:∀ w,Sat w0 [C,restOf G k] w→Calls P f (vs ++ cs).toArray w (fun e w'=>∃ i,e = .returned (val i)∧Sat w0 [C' i,restOf G k] w')) :
  Sd P n ⟨dst,.call { callee:=.value xo,args:=xs.toArray,argTypes:=ts },ty,pos,aft,g⟩ fr (Sat w0 G) val (fun i=>Sat w0 (G.set k (C' i))) :=
 Sd.callV he hv hx fun w s=>(hc w (s.focus hk)).mono fun e w' ⟨i,h1,h2⟩=>⟨i,h1,by
  have:=Sat.unfocus (D:=[]) (List.getElem?_eq_some_iff.1 hk).1 (by simpa using h2)
  simpa using this⟩
theorem Pu.mkIface {x:Operand} {t e:TypeId} {v:Value} (ht:P.underlying t = some (.pointer e)) (hx:ev fr x = some v):Pu P n ⟨dst,.makeInterface t x,ty,pos,aft,g⟩ fr (.iface t v):=fun a kn w=>by
 simp [execOp,kn.ev hx,Instr.makeInterface,run_underlying ht]
end
end
def eqFs (P:Program):List Field→Option (List (Nat × Option (Nat × List Nat)))
  | []=>some []
  | f :: fs=>if f.name == "_" then none else
    match tySz P f.type,P.underlying f.type,eqFs P fs with
    | some (1,false),some (.int _),some r=>some ((f.offset,none) :: r)
    | some (n,true),_,some r=>(eqTy P f.type).map fun offs=>(f.offset,some (n,offs)) :: r
    | _,_,_=>none
def eqTy2 (P:Program) (t:TypeId):Option (List (Nat × Option (Nat × List Nat))):=match P.underlying t with
  | some (.struct fs)=>if !P.stoodInHeld t && !P.eqGuardType P.depth t then eqFs P fs.toList else none
  | _=>none
def eqAt2 (xs ys:List Value):List (Nat × Option (Nat × List Nat))→Option Bool
  | []=>some true
  | (o,none) :: r=>match xs[o]?,ys[o]? with
    | some (.int k a),some (.int k' b)=>if k = k' then (eqAt2 xs ys r).map fun q=>a == b && q else none
    | _,_=>none
  | (o,some (n,offs)) :: r=>match eqAt ((xs.drop o).take n) ((ys.drop o).take n) offs,eqAt2 xs ys r with
    | some a,some q=>some (a && q)
    | _,_=>none
theorem run_eqFields2 {P:Program} {d:Nat} {xs ys:List Value}:∀ (fs:List Field) {l:List (Nat × Option (Nat × List Nat))} {r:Bool},eqFs P fs = some l→eqAt2 xs ys l = some r→∀ w,(Op.eqFields (d + 2) xs.toArray ys.toArray fs).run P w = .ok r w
 | [],l,r,hf,hr,w=>by simp [eqFs] at hf; subst hf; cases hr; simp [Op.eqFields]
 | f :: fs,l,r,hf,hr,w=>by
  unfold eqFs at hf
  by_cases hn:(f.name == "_") = true
  ·simp [hn] at hf
  rw [if_neg hn] at hf
  have h1:f.name ≠ "_":=by simpa using hn
  split at hf
  ·rename_i k r' h3 hu hs
   cases hf
   simp only [eqAt2] at hr
   cases hx:xs[f.offset]? with
   | none=>simp [hx] at hr
   | some x =>
    cases hy:ys[f.offset]? with
    | none=>cases x <;> simp [hx,hy] at hr
    | some y =>
     rw [hx,hy] at hr
     cases x <;> cases y <;> simp only [reduceCtorEq] at hr
     rename_i k1 a k2 b
     by_cases hk:k1 = k2
     ·subst hk
      simp only [if_true] at hr
      cases he:eqAt2 xs ys r' with
      | none=>simp [he] at hr
      | some q =>
       simp only [he,Option.map_some,Option.some.injEq] at hr
       subst hr
       have hpx:(part f.type xs.toArray f.offset).run P w = .ok (.int k1 a) w:=by simp [part,run_isAgg_of h3,hx]
       have hpy:(part f.type ys.toArray f.offset).run P w = .ok (.int k1 b) w:=by simp [part,run_isAgg_of h3,hy]
       have ih:=run_eqFields2 (d:=d) fs hs he w
       simp only [Op.eqFields,if_pos h1,Sem.run_bind,hpx,hpy,Result.andThen_ok,run_equalIn_int w (d + 1) f.type k1 k a b hu,Sem.run_ite,Sem.run_pure,ih]
       by_cases hab:a = b
       ·simp [hab]
       ·simp [hab]
     ·simp [hk] at hr
  ·rename_i n r' h3 hs
   obtain ⟨offs,ho,rfl⟩:=Option.map_eq_some_iff.1 hf
   simp only [eqAt2] at hr
   cases ha:eqAt ((xs.drop f.offset).take n) ((ys.drop f.offset).take n) offs with
   | none=>simp [ha] at hr
   | some a =>
    cases he:eqAt2 xs ys r' with
    | none=>simp [ha,he] at hr
    | some q =>
     simp only [ha,he,Option.some.injEq] at hr
     subst hr
     have hpx:(part f.type xs.toArray f.offset).run P w = .ok (.agg ((xs.drop f.offset).take n).toArray) w:=by
      simp [part,run_isAgg_of h3,run_sizeOf_of h3,List.extract_eq_take_drop]
     have hpy:(part f.type ys.toArray f.offset).run P w = .ok (.agg ((ys.drop f.offset).take n).toArray) w:=by
      simp [part,run_isAgg_of h3,run_sizeOf_of h3,List.extract_eq_take_drop]
     obtain ⟨gs,g1,g2,g3,g4,g5⟩:=eqTy_spec ho
     have hgf:P.fieldsOf f.type = gs:=by simp [Program.fieldsOf,g1]
     have e2:=run_equalIn_agg (P:=P) (w:=w) (d + 1) f.type ((xs.drop f.offset).take n).toArray ((ys.drop f.offset).take n).toArray (by rw [hgf]; exact g1) g4
     rw [hgf,run_eqFields (d:=d) gs.toList g3 (by rw [g2]; exact ha) w] at e2
     have ih:=run_eqFields2 (d:=d) fs hs he w
     simp only [Op.eqFields,if_pos h1,Sem.run_bind,hpx,hpy,Result.andThen_ok,e2,Sem.run_ite,Sem.run_pure,ih]
     cases a <;> simp
  ·cases hf
section
variable {P:Program} {n:Nat} {fr:Fr} {dst:Option Tmp} {ty:TypeId} {pos:String} {aft:Array Edge} {g:Option (Nat × Bool)}
theorem eqTy2_run {xt:TypeId} {xs ys:List Value} {l:List (Nat × Option (Nat × List Nat))} {r:Bool} (ht:eqTy2 P xt = some l) (hr:eqAt2 xs ys l = some r) (w:World) :
  P.eqGuardType P.depth xt = false∧(Op.equalIn 10000 xt (.agg xs.toArray) (.agg ys.toArray)).run P w = .ok r w:=by
 unfold eqTy2 at ht
 split at ht
 ·rename_i fs e
  split at ht
  ·rename_i hc
   simp only [Bool.and_eq_true,Bool.not_eq_true'] at hc
   have hf:P.fieldsOf xt = fs:=by simp [Program.fieldsOf,e]
   have e2:=run_equalIn_agg (P:=P) (w:=w) 9999 xt xs.toArray ys.toArray (by rw [hf]; exact e) hc.1
   rw [hf,run_eqFields2 (d:=9997) fs.toList ht hr w] at e2
   exact ⟨hc.2,e2⟩
  ·cases ht
 ·cases ht
end
theorem Cont.inB {n id:Nat} {Q:Po} {fr:Fr} {S:As} (h:Cont n (Q .normal) fr S):Cont n (Exit.inBlock id Q .normal) fr S:=fun a w k s=>h a w k s
end Go.Vg
