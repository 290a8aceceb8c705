/-
  Texts of one's own, joined: V8 WC WF IG YG LH.
-/
import Derived.Test.YtmngdgclldkcfaaGreatJ11
import Derived.Laws.LoneSync
import Derived.MapKept
import Derived.Test.YtmngdgclldkcfaaGreatJ6
import Derived.Test.YtmngdgclldkcfaaGreatJ4
import Derived.ArgAppend
import Derived.Test.YtmngdgclldkcfaaGreatRows
import Derived.Test.YtmngdgclldkcfaaGreatJ7
import Derived.Test.YtmngdgclldkcfaaGreatJ10
set_option linter.unusedSimpArgs false
set_option linter.unusedVariables false
namespace Go.Vg
open Go.RowKit (Below)
open Enc (R)
open Go.MapKept
section
variable {β:Type}
def keys (L:List (Int × β)):List Int:=L.map (·.1)
end
def kvv (L:List (Int × Value)):List (Value × Value):=L.map fun p=>(.int .i64 p.1,p.2)
def mapL (b:Nat) (L:List (Int × Value)):Ch:=fun h=>∃ es clock,h b = some (.map es clock)∧es.toList.map (fun e=>(e.key,e.val)) = kvv L∧(keys L).Nodup
section
variable {P:Program} {n:Nat} {fr:Fr} {dst:Option Tmp} {ty:TypeId} {pos:String} {aft:Array Edge} {g:Option (Nat × Bool)} {S:As} {w0:World} {G:List Ch}
theorem Sd.makeMapL {t:TypeId}:Sd P n ⟨dst,.makeMap t none,ty,pos,aft,g⟩ fr (Sat w0 G) (fun b:Nat=>.map (some b)) (fun b=>Sat w0 (G ++ [mapL b []])):=fun a w k s=>by
 have:(execOp a.eval ⟨dst,.makeMap t none,ty,pos,aft,g⟩).run P w = .ok (.value (.map (some w.heap.size))) (w.alloc (.map #[] 0)):=by
  simp [execOp,Instr.makeMap]
 rw [this]
 refine ⟨w.heap.size,rfl,s.new (Ext.alloc w _) _ (fun b=>if b = w.heap.size then some (.map #[] 0) else none) ⟨#[],0,by simp,rfl,by simp [keys]⟩ (fun b o hb=>?_) (fun b o hb=>?_)⟩
 ·dsimp only at hb
  split at hb
  ·rename_i hb'; subst hb'; cases hb
   exact (heap_alloc w _).1
  ·cases hb
 ·split at hb
  ·omega
  ·cases hb
theorem Sat.drewS {w:World} (s:Sat w0 G w):Sat w0 G w.drew:=by
 obtain ⟨h1,h2,h3⟩:=s
 exact ⟨h1.trans (Ext.drew w),h2,h3⟩
end
end Go.Vg
set_option linter.unusedVariables false
set_option linter.unusedSimpArgs false
namespace Go.Vg
open Go.RowKit (Below)
open Enc (R)
section
variable {α β:Type}
end
section
variable {w0:World} {G:List Ch} {P:Program} {n:Nat} {fr:Fr} {dst:Option Tmp} {ty:TypeId} {pos:String} {aft:Array Edge} {gd:Option (Nat × Bool)}
end
theorem star_swap {A C X:Ch} {h:Hp}:star A (star C X) h→star C (star A X) h:=by
 rintro ⟨p,r,hp,⟨c,x,hc,hx,hd,l1,l2⟩,hd2,l3,l4⟩
 have dis:∀ (u v:Hp),(∀ b,p b = none ∨ r b = none)→u.le r→∀ b,p b = none ∨ u b = none:=fun u v hd hu b=>by
  rcases hd b with h | h
  ·exact .inl h
  ·right
   cases e:u b with
   | none=>rfl
   | some o=>rw [hu b o e] at h; cases h
 refine ⟨c,p.over x,hc,⟨p,x,hp,hx,dis x x hd2 l2,Hp.le_over _ _,fun b o e=>?_⟩,fun b=>?_,fun b o e=>l4 b o (l1 b o e),Hp.over_le l3 fun b o e=>l4 b o (l2 b o e)⟩
 ·rcases dis x x hd2 l2 b with h1 | h1
  ·unfold Hp.over; rw [h1]; exact e
  ·rw [h1] at e; cases e
 ·rcases dis c c hd2 l1 b with h1 | h1
  ·rcases hd b with h2 | h2
   ·exact .inl h2
   ·right; unfold Hp.over; rw [h1]; exact h2
  ·exact .inl h1
theorem star_monoR {A B C:Ch} {h:Hp} (hbc:∀ p,B p→C p):star A B h→star A C h:=fun ⟨p,q,a,b,c⟩=>⟨p,q,a,hbc q b,c⟩
theorem stars_out:∀ {A B:List Ch} {C:Ch} {h:Hp},stars (A ++ C :: B) h→star C (stars (A ++ B)) h
 | [],B,C,h,s=>s
 | a :: A,B,C,h,s=>star_swap (star_monoR (fun p hp=>stars_out (A:=A) hp) s)
theorem stars_in:∀ {A B:List Ch} {C:Ch} {h:Hp},star C (stars (A ++ B)) h→stars (A ++ C :: B) h
 | [],B,C,h,s=>s
 | a :: A,B,C,h,s=>star_monoR (fun p hp=>stars_in (A:=A) hp) (star_swap s)
section
variable {w0 w:World} {G:List Ch}
end
section
variable {P:Program} {n:Nat} {fr:Fr} {dst:Option Tmp} {ty:TypeId} {pos:String} {aft:Array Edge} {g:Option (Nat × Bool)} {S:As} {w0:World} {G:List Ch}
theorem Sd.callV {f:FuncId} {cs:List Value} {xo:Operand} {xs:List Operand} {ts:Array TypeId} {vs:List Value} (he:Ent P f) (hv:ev fr xo = some (.func (.func f) #[] cs.toArray)) (hx:evs fr xs = some vs) {ι:Type} {val:ι→Value} {S':ι→As}
  (hc:∀ w,S w→Calls P f (vs ++ cs).toArray w (fun e w'=>∃ i,e = .returned (val i)∧S' i w')) :
  Sd P n ⟨dst,.call { callee:=.value xo,args:=xs.toArray,argTypes:=ts },ty,pos,aft,g⟩ fr S val S':=fun a w k s=>by
 rw [run_enterV he hv hx k,show vs.toArray ++ cs.toArray = (vs ++ cs).toArray by simp]
 exact hc w s
end
def fldTy (P:Program) (s f:Nat):Option (Nat × Nat):=match P.underlying s with
  | some (.struct fs)=>(fs[f]?).map fun x=>(x.type,x.offset)
  | _=>none
theorem Pu.fieldS {P:Program} {n:Nat} {fr:Fr} {dst:Option Tmp} {ty:TypeId} {pos:String} {aft:Array Edge} {g:Option (Nat × Bool)} {s f t off:Nat} {x:Operand} {cs:List Value} {v:Value} (hf:fldTy P s f = some (t,off)) (ht:tySz P t = some (1,false)) (hx:ev fr x = some (.agg cs.toArray)) (hv:cs[off]? = some v) :
  Pu P n ⟨dst,.field s x f,ty,pos,aft,g⟩ fr v:=fun a k w=>by
 unfold fldTy at hf
 split at hf
 ·rename_i fs hu
  obtain ⟨fd,h1,h2⟩:=Option.map_eq_some_iff.1 hf
  obtain ⟨h3,h4⟩:=Prod.mk.inj h2
  subst h3; subst h4
  simp [execOp,k.ev hx,Instr.field,run_underlying hu,h1,asAgg,part,run_isAgg_of ht,hv,Result.andThen]
 ·cases hf
end Go.Vg
set_option linter.unusedSimpArgs false
set_option linter.unusedVariables false
namespace Go.Vg
open Go.RowKit (Below)
open Enc (R)

theorem setCells_blk (b:Nat) (e:TypeId) (m:Nat × Nat):∀ (vs:List Value) (o:Nat) (cur:List Value) (w:World),w.heap[b]? = some (.cells cur.toArray e m)→o + vs.length ≤ cur.length →
  (w.setCells b o vs).heap[b]? = some (.cells (cur.take o ++ vs ++ cur.drop (o + vs.length)).toArray e m)
 | [],o,cur,w,h,_=>by simp only [World.setCells,List.length_nil,Nat.add_zero,List.append_nil,List.take_append_drop]; exact h
 | v :: r,o,cur,w,h,hl=>by
  simp only [List.length_cons] at hl
  have hb:b < w.heap.size:=(Array.getElem?_eq_some_iff.1 h).1
  have h1:(w.setCell ⟨b,o,none⟩ v).heap[b]? = some (.cells (cur.set o v).toArray e m):=by
   simp only [World.setCell,Array.getElem?_modify,if_true,h,Option.map_some]
   simp [List.setIfInBounds_toArray]
  have h2:=setCells_blk b e m r (o + 1) (cur.set o v) (w.setCell ⟨b,o,none⟩ v) h1 (by simp; omega)
  rw [World.setCells,h2]
  congr 3
  have e1:(cur.set o v).take (o + 1) = cur.take o ++ [v]:=by
   rw [List.take_add_one,List.take_set_of_le (Nat.le_refl o),List.getElem?_set_self (by omega)]; rfl
  have e2:(cur.set o v).drop (o + 1 + r.length) = cur.drop (o + (r.length + 1)):=by
   rw [List.drop_set_of_lt (by omega)]; congr 1; omega
  rw [e1,e2]
  simp
theorem setCells_other (b k:Nat) (hne:k ≠ b):∀ (vs:List Value) (o:Nat) (w:World),(w.setCells b o vs).heap[k]? = w.heap[k]?
 | [],_,_=>rfl
 | v :: r,o,w=>by
  rw [World.setCells,setCells_other b k hne r (o + 1)]
  simp only [World.setCell,Array.getElem?_modify,if_neg (Ne.symm hne)]
theorem setCells_same (b:Nat):∀ (vs:List Value) (o:Nat) (w:World),(w.setCells b o vs).heap.size = w.heap.size∧(w.setCells b o vs).os = w.os∧(w.setCells b o vs).tape = w.tape∧(w.setCells b o vs).output = w.output
 | [],_,_=>⟨rfl,rfl,rfl,rfl⟩
 | v :: r,o,w=>by
  rw [World.setCells]
  have h:=setCells_same b r (o + 1) (w.setCell ⟨b,o,none⟩ v)
  simpa [World.setCell] using h

def unmarked (m:Nat × Nat) (n:Nat):Prop:=∀ o,o < n→¬ (m.1 ≤ o∧o < m.2)
def rowM {α:Type} [Enc α] (e:TypeId) (v:Value) (xs:List α):Ch:=fun h =>
  (v = .slice none 0 0∧xs = []) ∨
  ∃ g cap cs sp m,v = .slice (some ⟨g,0,none⟩) xs.length cap∧h g = some (.cells (cs ++ sp).toArray e m)∧xs.length ≤ cap∧cap ≤ maxLen∧(cs ++ sp).length = cap * Enc.sz α∧RF nilH xs cs∧unmarked m (cap * Enc.sz α)
section
variable {α:Type} [Enc α]
theorem rowM_R {e:TypeId} {v:Value} {xs:List α} {h:Hp}:rowM e v xs h→R h xs [v]
 | .inl ⟨h1,h2⟩=>by subst h1; subst h2; exact ⟨none,0,rfl,by simp,by simp,.inl rfl⟩
 | .inr ⟨g,cap,cs,sp,m,h1,h2,h3,h4,h5,h6,_⟩=>by
  subst h1
  exact ⟨_,cap,rfl,h3,h4,.inr ⟨g,0,cs,rfl,h6.mono (nilH_le _),⟨_,e,_,h2,fun j v hj=>by
   rw [Nat.zero_add,List.getElem?_toArray,List.getElem?_append_left (List.getElem?_eq_some_iff.1 hj).1]
   exact hj⟩⟩⟩
theorem rowM_fits {e:TypeId} {q:Option Nat × Nat} {m:Nat} {xs:List α} {p:Hp} (hp:rowM e (rowV q m) xs p):m = xs.length∧m ≤ q.2∧q.2 ≤ maxLen:=by
 rcases hp with ⟨hv,rfl⟩ | ⟨g,cap,cs,sp,mm,hv,_,hle,hm,_⟩
 ·simp only [rowV,Value.slice.injEq] at hv
  obtain ⟨_,rfl,h2⟩:=hv
  rw [h2]; exact ⟨rfl,Nat.le_refl _,Nat.zero_le _⟩
 ·simp only [rowV,Value.slice.injEq] at hv
  obtain ⟨_,rfl,h2⟩:=hv
  rw [h2]; exact ⟨rfl,hle,hm⟩
theorem rowM_shape {e:TypeId} {v:Value} {xs:List α} {p:Hp} (h:rowM e v xs p):∃ q:Option Nat × Nat,v = .slice (q.1.map fun g=>⟨g,0,none⟩) xs.length q.2:=by
 rcases h with ⟨rfl,rfl⟩ | ⟨g,cap,cs,sp,m,rfl,_⟩
 ·exact ⟨(none,0),rfl⟩
 ·exact ⟨(some g,cap),rfl⟩
variable {w0 w:World} {G:List Ch}
theorem Sat.row_fitsM {k m:Nat} {e:TypeId} {q:Option Nat × Nat} {xs:List α} (h:Sat w0 G w) (hk:G[k]? = some (rowM e (rowV q m) xs)):m = xs.length∧m ≤ q.2∧q.2 ≤ maxLen:=by
 obtain ⟨p,hp,_⟩:=h.get k hk
 exact rowM_fits hp
theorem Sat.relenM {e:TypeId} {q:Option Nat × Nat} {m:Nat} {xs:List α} (k:Nat) (h:Sat w0 G w) (hk:G[k]? = some (rowM e (rowV q m) xs)):Sat w0 (G.set k (rowM e (rowV q xs.length) xs)) w :=
 h.weaken k hk _ fun p hp=>by rw [← (h.row_fitsM hk).1]; exact hp
theorem Sat.nilRowM (e:TypeId) (h:Sat w0 G w):Sat w0 (G ++ [rowM e (rowV (none,0) 0) ([]:List α)]) w:=h.addEmpty _ (fun p=>.inl ⟨rfl,rfl⟩)
theorem Rd.ofRowM (k:Nat) {e:TypeId} {v:Value} {xs:List α} (hk:G[k]? = some (rowM e v xs)):Rd (Sat w0 G) xs [v]:=fun w s=>by
 obtain ⟨p,hp,hl,_⟩:=s.get k hk
 exact Enc.mono hl (rowM_R hp)
theorem Sat.appendM [Flat α] {P:Program} (s:Sat w0 G w) {k:Nat} {t e ty:TypeId} {by':Nat} {z:Value} {v:Value} {xs ys:List α} {news:List Value} (hk:G[k]? = some (rowM e v xs))
  (ht:slTy P t = some (e,Enc.sz α,by')) (hz:zeroOf P e = some z) (hzs:z.cells.size = Enc.sz α) (hy:RF nilH ys news) {q:Addr} {m c:Nat} (hm:ys.length = m) (hnews:∀ j u,news[j]? = some u→w.cell? (q.add j) = some u)
  (hbytes:(xs.length + m) * by' ≤ 140737488355328) (h63:xs.length + m ≤ maxLen) :
  ∃ v' w',(Builtin.append_ #[t,t] ty #[v,.slice (some q) m c]).run P w = .ok v' w'∧Sat w0 (G.set k (rowM e v' (xs ++ ys))) w':=by
 obtain ⟨hu,i,hi,hsz',hby⟩:=slTy_spec ht
 subst hby
 obtain ⟨i',hi',hz'⟩:=Option.bind_eq_some_iff.1 hz
 rw [hi] at hi'; cases hi'
 have h63':((xs.length + m:Nat):Int) ≤ 9223372036854775807:=by unfold maxLen at h63; omega
 subst hm
 have hnl:news.length = ys.length * i.size:=by rw [hy.length,hsz']
 obtain ⟨p0,hp0,hl0,hb0⟩:=s.get k hk
 have fresh:∀ (cs:List Value) (cap:Nat),RF nilH xs cs→xs.length + ys.length ≤ cap→cap ≤ maxLen →
   Sat w0 (G.set k (rowM e (.slice (some ⟨w.heap.size,0,none⟩) (xs ++ ys).length cap) (xs ++ ys))) (w.drew.alloc (.cells (cs.toArray ++ news.toArray ++ Builtin.zeroCells z.cells (cap - (xs.length + ys.length))) e)):=by
  intro cs cap hx hcap hcm
  refine s.turn k hk _ rfl rfl rfl (by simp) fun p hp hl hb=>?_
  refine ⟨fun b hb' hn=>(Below.heap_alloc w.drew _ b (by simpa using hb')),fun b=>if b = w.heap.size then some (.cells (cs.toArray ++ news.toArray ++ Builtin.zeroCells z.cells (cap - (xs.length + ys.length))) e (0,0)) else none,.inr ?_,fun b o hbo=>?_⟩
  ·refine ⟨w.heap.size,cap,cs ++ news,(Builtin.zeroCells z.cells (cap - (xs.length + ys.length))).toList,(0,0),rfl,by simp,by simpa using hcap,hcm,?_,RF.append hx hy,fun o _ h=>by omega⟩
   simp only [List.length_append,hx.length,hy.length,Array.length_toList,size_zeroCells,hzs,← Nat.add_mul]
   congr 1
   omega
  ·dsimp only at hbo
   split at hbo
   ·rename_i hbw
    subst hbw; cases hbo
    exact ⟨.inr (Nat.le_refl _),heap_alloc_new w.drew _⟩
   ·cases hbo
 rcases hp0 with ⟨rfl,rfl⟩ | ⟨g,cap,cs,sp,mk,rfl,hgp,hlc,hcm,hlen,hx,hmk⟩
 ·by_cases hm:ys.length = 0
  ·have hys:ys = []:=List.eq_nil_of_length_eq_zero hm
   subst hys
   have hn:news = []:=hy
   subst hn
   refine ⟨.slice none 0 0,w,?_,?_⟩
   ·simp [Builtin.append_,run_underlying hu,sizeOf,typeInfo,hi,Builtin.lenOf,Builtin.firstCells,loadCells,loadCellsFrom]
   ·exact s.weaken k hk _ fun p hp=>.inl ⟨rfl,rfl⟩
  ·have hr:=run_append_nil (P:=P) w t ty e i z hu hi hz' q ys.length c news hnl hnews (by omega) (by simpa using h63') (by have hb:=hbytes; simp only [List.length_nil,Nat.zero_add] at hb; omega)
   have hge:=grownCap_ge w ys.length 0 e
   have hle:=grownCap_le_maxLen w ys.length 0 e (by simpa using h63)
   have:=fresh [] (grownCap w ys.length 0 e) rfl (by simpa using hge) hle
   simp only [List.nil_append,List.length_nil,Nat.zero_add,Array.empty_append] at this
   exact ⟨_,_,hr,by simpa using this⟩
 ·have hwg:=hl0 _ _ hgp
  have hcsl:=hx.length
  by_cases hroom:xs.length + ys.length ≤ cap
  ·have hfit:xs.length * i.size + news.length ≤ (cs ++ sp).length:=by
    simp only [hlen,hnl,hsz',← Nat.add_mul]
    exact Nat.mul_le_mul_right _ hroom
   have hwg':w.heap[g]? = some (.cells (cs ++ sp).toArray e mk):=hwg
   have hr:=run_append_room_cells (P:=P) w t ty e i hu hi g 0 xs.length cap q ys.length c news hnl hnews hy.one hroom
    (fun j hj=>by
     have hj2:xs.length * i.size + j < (cs ++ sp).length:=by omega
     rw [Nat.zero_add]; simp only [World.cell?,hwg']; simp only [List.size_toArray,Array.getElem?_eq_getElem (xs:=(cs ++ sp).toArray) (i:=xs.length * i.size + j) (by simpa using hj2)]; rfl)
    (fun j hj=>by
     have h1:=hmk (xs.length * i.size + j) (by rw [← hlen]; omega)
     simp only [World.frozen?,hwg',Nat.zero_add,Bool.and_eq_false_iff,decide_eq_false_iff_not]
     omega)
   refine ⟨_,_,hr,?_⟩
   simp only [Nat.zero_add]
   have hB:=setCells_blk g e mk news (xs.length * i.size) (cs ++ sp) w hwg' hfit
   have harr:(cs ++ sp).take (xs.length * i.size) ++ news ++ (cs ++ sp).drop (xs.length * i.size + news.length) = (cs ++ news) ++ sp.drop news.length:=by
    rw [hsz',← hcsl]
    simp [List.drop_append]
   rw [harr] at hB
   obtain ⟨z1,z2,z3,z4⟩:=setCells_same g news (xs.length * i.size) w
   refine s.turn k hk _ z2 z3 z4 (by rw [z1]; exact Nat.le_refl _) fun p hp hl hb=>?_
   have hpg:p g ≠ none:=by
    rcases hp with ⟨hv,_⟩ | ⟨g',cap',cs',sp',m',hv,hgp',_⟩
    ·cases hv
    ·simp only [Value.slice.injEq,Option.some.injEq,Addr.mk.injEq,and_true,true_and] at hv
     obtain ⟨rfl,rfl⟩:=hv
     rw [hgp']; simp
   refine ⟨fun b hb' hn=>setCells_other g b (fun e'=>by subst e'; exact hpg hn) _ _ _,fun b=>if b = g then some (.cells ((cs ++ news) ++ sp.drop news.length).toArray e mk) else none,.inr ?_,fun b o hbo=>?_⟩
   ·refine ⟨g,cap,cs ++ news,sp.drop news.length,mk,by simp,by simp,by simpa using hroom,hcm,?_,RF.append hx hy,hmk⟩
    have h1:=hlen
    simp only [List.length_append,List.length_drop] at h1 ⊢
    have h2:cs.length + news.length ≤ cap * Enc.sz α:=by rw [hcsl,hnl,hsz',← Nat.add_mul]; exact Nat.mul_le_mul_right _ hroom
    omega
   ·dsimp only at hbo
    split at hbo
    ·rename_i hbg; subst hbg; cases hbo
     exact ⟨.inl hpg,hB⟩
    ·cases hbo
  ·have holds:∀ j u,cs[j]? = some u→w.cell? ((⟨g,0,none⟩:Addr).add j) = some u:=fun j u hj=>by
    have hw:w.heap[g]? = some (.cells (cs ++ sp).toArray e mk):=hwg
    rw [add_lit]
    simp [World.cell?,hw,List.getElem?_append_left (List.getElem?_eq_some_iff.1 hj).1,hj]
   have hr:=run_append_grow (P:=P) w t ty e i z hu hi hz' ⟨g,0,none⟩ xs.length cap cs (by rw [hcsl,hsz']) holds q ys.length c news hnl hnews (by omega) h63' (growslice_fits (by omega) hbytes)
   have hge:=grownCap_ge w (xs.length + ys.length) cap e
   have hle:=grownCap_le_maxLen w (xs.length + ys.length) cap e h63
   have:=fresh cs (grownCap w (xs.length + ys.length) cap e) hx hge hle
   exact ⟨_,_,hr,by simpa using this⟩
section
variable {P:Program} {n:Nat} {fr:Fr} {dst:Option Tmp} {ty:TypeId} {pos:String} {aft:Array Edge} {g:Option (Nat × Bool)} {S:As}
theorem Sd.appRM [Flat α] (k:Nat) {x y:Operand} {t e:TypeId} {by':Nat} {z v vy:Value} {xs ys:List α} (hk:G[k]? = some (rowM e v xs))
  (ht:slTy P t = some (e,Enc.sz α,by')) (hz:zeroOf P e = some z) (hzs:z.cells.size = Enc.sz α) (hx:ev fr x = some v) (hy:ev fr y = some vy) (hR:Rd (Sat w0 G) ys [vy])
  (hlt:xs.length + ys.length < 1099511627776) (hby:by' ≤ 128) :
  Sd P n ⟨dst,.call { callee:=.builtin .append,args:=#[x,y],argTypes:=#[t,t] },ty,pos,aft,g⟩ fr (Sat w0 G) (fun q=>rowV q (xs ++ ys).length) (fun q=>Sat w0 (G.set k (rowM e (rowV q (xs ++ ys).length) (xs ++ ys)))):=fun a w kn s=>by
 have hbytes:(xs.length + ys.length) * by' ≤ 140737488355328:=by
  have:=Nat.mul_le_mul (show xs.length + ys.length ≤ 1099511627776 by omega) hby; omega
 have h63:xs.length + ys.length ≤ maxLen:=by unfold maxLen; omega
 obtain ⟨p',cap',e',s1,s2,s3⟩:=hR w s
 simp only [List.cons.injEq,and_true] at e'
 subst e'
 have fin:∀ v' w',(Builtin.append_ #[t,t] ty #[v,.slice p' ys.length cap']).run P w = .ok v' w'→Sat w0 (G.set k (rowM e v' (xs ++ ys))) w' →
   solidRes P (fun q=>rowV q (xs ++ ys).length) (fun q=>Sat w0 (G.set k (rowM e (rowV q (xs ++ ys).length) (xs ++ ys)))) ((execOp a.eval ⟨dst,.call { callee:=.builtin .append,args:=#[x,y],argTypes:=#[t,t] },ty,pos,aft,g⟩).run P w):=fun v' w' hr hs=>by
  rw [run_builtin_append kn hx hy hr]
  have hkl:k < (G.set k (rowM e v' (xs ++ ys))).length:=by simpa using (List.getElem?_eq_some_iff.1 hk).1
  obtain ⟨p,hp,_⟩:=hs.get k (List.getElem?_set_self (by simpa using hkl))
  obtain ⟨q',hq⟩:=rowM_shape hp
  exact ⟨q',hq,by show Sat w0 (G.set k (rowM e (rowV q' (xs ++ ys).length) (xs ++ ys))) w'; rw [show rowV q' (xs ++ ys).length = v' from hq.symm]; exact hs⟩
 cases p' with
 | none =>
  have hnil:ys = []:=by
   rcases s3 with h | ⟨b,o,cs,hq,_⟩
   ·exact h
   ·cases hq
  subst hnil
  obtain ⟨p,hp,_⟩:=s.get k hk
  obtain ⟨q',hq⟩:=rowM_shape hp
  obtain ⟨hu,i,hi,_,_⟩:=slTy_spec ht
  have hlc:xs.length ≤ q'.2:=by
   have h2:=s.row_fitsM (k:=k) (e:=e) (xs:=xs) (q:=q') (m:=xs.length) (by rw [hk,hq]; rfl)
   exact h2.2.1
  refine fin v w ?_ (by
   have e1:G.set k (rowM e v (xs ++ [])) = G:=by
    rw [List.append_nil]
    obtain ⟨hl,he⟩:=List.getElem?_eq_some_iff.1 hk
    exact he ▸ List.set_getElem_self hl
   rw [e1]; exact s)
  subst hq
  obtain ⟨o,c⟩:=q'
  have hlc':xs.length ≤ c:=hlc
  cases o <;> simp [Builtin.append_,run_underlying hu,sizeOf,typeInfo,hi,Builtin.lenOf,Builtin.firstCells,storeCells,hlc']
 | some q =>
  rcases s3 with rfl | ⟨b,o,cs,hq,hr,ha⟩
  ·obtain ⟨v',w',hr',hs⟩:=s.appendM (ty:=ty) hk ht hz hzs (ys:=[]) (news:=[]) (by simp [RF]) (q:=q) (c:=cap') rfl (by simp) hbytes h63
   exact fin v' w' hr' hs
  ·cases hq
   obtain ⟨v',w',hr',hs⟩:=s.appendM (ty:=ty) hk ht hz hzs hr.any (q:=⟨b,o,none⟩) (c:=cap') rfl (fun j u hj=>by rw [add_lit]; exact ha.cell hj) hbytes h63
   exact fin v' w' hr' hs
theorem Sd.app1M [Flat α] (k k1:Nat) {x y:Operand} {t e e':TypeId} {by':Nat} {z v:Value} {xs:List α} (y0:α) {news:List Value} {b c:Nat}
  (hk:G[k]? = some (rowM e v xs)) (hk1:G[k1]? = some (blk b news e'))
  (ht:slTy P t = some (e,Enc.sz α,by')) (hz:zeroOf P e = some z) (hzs:z.cells.size = Enc.sz α) (hx:ev fr x = some v) (hy:ev fr y = some (.slice (some ⟨b,0,none⟩) 1 c))
  (hr:R nilH y0 news) (hlt:xs.length < 1099511627776) (hby:by' ≤ 128) :
  Sd P n ⟨dst,.call { callee:=.builtin .append,args:=#[x,y],argTypes:=#[t,t] },ty,pos,aft,g⟩ fr (Sat w0 G) (fun q=>rowV q (xs ++ [y0]).length) (fun q=>Sat w0 (G.set k (rowM e (rowV q (xs ++ [y0]).length) (xs ++ [y0])))):=fun a w kn s=>by
 have hbytes:(xs.length + 1) * by' ≤ 140737488355328:=by
  have:=Nat.mul_le_mul (show xs.length + 1 ≤ 1099511627776 by omega) hby; omega
 obtain ⟨v',w',hr',hs⟩:=s.appendM (ty:=ty) hk ht hz hzs (RF.single hr) (q:=⟨b,0,none⟩) (m:=1) (c:=c) rfl (fun j u hj=>by
  have hb:=(s.getBlk hk1).1
  rw [add_lit]
  simp [World.cell?,hb,hj]) hbytes (by unfold maxLen; omega)
 rw [run_builtin_append kn hx hy hr']
 have hkl:k < (G.set k (rowM e v' (xs ++ [y0]))).length:=by simpa using (List.getElem?_eq_some_iff.1 hk).1
 obtain ⟨p,hp,_⟩:=hs.get k (List.getElem?_set_self (by simpa using hkl))
 obtain ⟨q',hq⟩:=rowM_shape hp
 exact ⟨q',hq,by show Sat w0 (G.set k (rowM e (rowV q' (xs ++ [y0]).length) (xs ++ [y0]))) w'; rw [show rowV q' (xs ++ [y0]).length = v' from hq.symm]; exact hs⟩
theorem Sd.convM {α:Type} [Enc α] (k:Nat) {x:Operand} {t e e':TypeId} {b len:Nat} {cs:List Value} (xs:List α) (hk:G[k]? = some (blk b cs e')) (ht:P.underlying t = some (.slice e)) (he:P.underlying e = some (.int .u8))
  (hx:ev fr x = some (.slice (some ⟨b,0,none⟩) len len)) (hl:xs.length = len) (hm:len ≤ maxLen) (hr:RF nilH xs cs) :
  Sd P n ⟨dst,.convert t t x,ty,pos,aft,g⟩ fr (Sat w0 G) (fun _:Unit=>rowV (some b,len) len) (fun _=>Sat w0 (G.set k (rowM e' (rowV (some b,len) len) xs))):=fun a w kn s=>by
 have hb:=(s.getBlk hk).1
 have hbs:b < w.heap.size:=(Array.getElem?_eq_some_iff.1 hb).1
 have hsh:w.shape? b = some (e',cs.length):=by simp [World.shape?,hb]
 have hrun:(execOp a.eval ⟨dst,.convert t t x,ty,pos,aft,g⟩).run P w = .ok (.value (rowV (some b,len) len)) (w.freeze ⟨b,cs.length,none⟩ 1):=by
  simp [execOp,kn.ev hx,convert,run_underlying ht,run_underlying he,markStringish,hsh,rowV]
 rw [hrun]
 refine ⟨(),rfl,?_⟩
 have hfz:∀ c,(w.freeze ⟨b,cs.length,none⟩ 1).heap[c]? = if b = c then some (.cells cs.toArray e' (cs.length,cs.length + 1)) else w.heap[c]?:=fun c=>by
  simp only [World.freeze,Nat.one_ne_zero,if_false,Array.getElem?_modify]
  split
  ·rename_i h; subst h; rw [hb]; simp
  ·rfl
 refine s.turn k hk _ (by simp [World.freeze]) (by simp [World.freeze]) (by simp [World.freeze]) (by simp [World.freeze]) fun p hp hl' hb'=>?_
 refine ⟨fun c hc hn=>?_,fun c=>if c = b then some (.cells cs.toArray e' (cs.length,cs.length + 1)) else none,.inr ?_,fun c o hco=>?_⟩
 ·have hne:b ≠ c:=fun e=>by subst e; rw [show p b = some (.cells cs.toArray e' (0,0)) from hp] at hn; cases hn
  rw [hfz,if_neg hne]
 ·have hlen:=hr.length
  refine ⟨b,len,cs,[],(cs.length,cs.length + 1),by rw [hl]; rfl,by simp,by omega,hm,by simp [hlen,hl],hr,fun o ho h=>?_⟩
  rw [hlen,hl] at h
  omega
 ·dsimp only at hco
  split at hco
  ·rename_i hcb; subst hcb; cases hco
   refine ⟨.inl (by rw [show p c = some (.cells cs.toArray e' (0,0)) from hp]; simp),?_⟩
   rw [hfz,if_pos rfl]
  ·cases hco
theorem Sd.callMV (k:Nat) {C:Ch} {f:FuncId} {cs:List Value} {xo:Operand} {xs:List Operand} {ts:Array TypeId} {vs:List Value} (he:Ent P f) (hv:ev fr xo = some (.func (.func f) #[] cs.toArray)) (hx:evs fr xs = some vs) (hk:G[k]? = some C)
  {ι:Type} {val:ι→Value} {C':ι→Ch} (hc:∀ w,Sat w0 [C,restOf G k] w→Calls P f (vs ++ cs).toArray w (fun e w'=>∃ i,e = .returned (val i)∧Sat w0 [C' i,restOf G k] w')) :
  Sd P n ⟨dst,.call { callee:=.value xo,args:=xs.toArray,argTypes:=ts },ty,pos,aft,g⟩ fr (Sat w0 G) val (fun i=>Sat w0 (G.set k (C' i))) :=
 Sd.callV he hv hx fun w s=>(hc w (s.focus hk)).mono fun e w' ⟨i,h1,h2⟩=>⟨i,h1,by
  have:=Sat.unfocus (D:=[]) (List.getElem?_eq_some_iff.1 hk).1 (by simpa using h2)
  simpa using this⟩
theorem Pu.mkIface {x:Operand} {t e:TypeId} {v:Value} (ht:P.underlying t = some (.pointer e)) (hx:ev fr x = some v):Pu P n ⟨dst,.makeInterface t x,ty,pos,aft,g⟩ fr (.iface t v):=fun a kn w=>by
 simp [execOp,kn.ev hx,Instr.makeInterface,run_underlying ht]
end
end
def eqFs (P:Program):List Field→Option (List (Nat × Option (Nat × List Nat)))
  | []=>some []
  | f :: fs=>if f.name == "_" then none else
    match tySz P f.type,P.underlying f.type,eqFs P fs with
    | some (1,false),some (.int _),some r=>some ((f.offset,none) :: r)
    | some (n,true),_,some r=>(eqTy P f.type).map fun offs=>(f.offset,some (n,offs)) :: r
    | _,_,_=>none
def eqTy2 (P:Program) (t:TypeId):Option (List (Nat × Option (Nat × List Nat))):=match P.underlying t with
  | some (.struct fs)=>if !P.stoodInHeld t && !P.eqGuardType P.depth t then eqFs P fs.toList else none
  | _=>none
def eqAt2 (xs ys:List Value):List (Nat × Option (Nat × List Nat))→Option Bool
  | []=>some true
  | (o,none) :: r=>match xs[o]?,ys[o]? with
    | some (.int k a),some (.int k' b)=>if k = k' then (eqAt2 xs ys r).map fun q=>a == b && q else none
    | _,_=>none
  | (o,some (n,offs)) :: r=>match eqAt ((xs.drop o).take n) ((ys.drop o).take n) offs,eqAt2 xs ys r with
    | some a,some q=>some (a && q)
    | _,_=>none
theorem run_eqFields2 {P:Program} {d:Nat} {xs ys:List Value}:∀ (fs:List Field) {l:List (Nat × Option (Nat × List Nat))} {r:Bool},eqFs P fs = some l→eqAt2 xs ys l = some r→∀ w,(Op.eqFields (d + 2) xs.toArray ys.toArray fs).run P w = .ok r w
 | [],l,r,hf,hr,w=>by simp [eqFs] at hf; subst hf; cases hr; simp [Op.eqFields]
 | f :: fs,l,r,hf,hr,w=>by
  unfold eqFs at hf
  by_cases hn:(f.name == "_") = true
  ·simp [hn] at hf
  rw [if_neg hn] at hf
  have h1:f.name ≠ "_":=by simpa using hn
  split at hf
  ·rename_i k r' h3 hu hs
   cases hf
   simp only [eqAt2] at hr
   cases hx:xs[f.offset]? with
   | none=>simp [hx] at hr
   | some x =>
    cases hy:ys[f.offset]? with
    | none=>cases x <;> simp [hx,hy] at hr
    | some y =>
     rw [hx,hy] at hr
     cases x <;> cases y <;> simp only [reduceCtorEq] at hr
     rename_i k1 a k2 b
     by_cases hk:k1 = k2
     ·subst hk
      simp only [if_true] at hr
      cases he:eqAt2 xs ys r' with
      | none=>simp [he] at hr
      | some q =>
       simp only [he,Option.map_some,Option.some.injEq] at hr
       subst hr
       have hpx:(part f.type xs.toArray f.offset).run P w = .ok (.int k1 a) w:=by simp [part,run_isAgg_of h3,hx]
       have hpy:(part f.type ys.toArray f.offset).run P w = .ok (.int k1 b) w:=by simp [part,run_isAgg_of h3,hy]
       have ih:=run_eqFields2 (d:=d) fs hs he w
       simp only [Op.eqFields,if_pos h1,Sem.run_bind,hpx,hpy,Result.andThen_ok,run_equalIn_int w (d + 1) f.type k1 k a b hu,Sem.run_ite,Sem.run_pure,ih]
       by_cases hab:a = b
       ·simp [hab]
       ·simp [hab]
     ·simp [hk] at hr
  ·rename_i n r' h3 hs
   obtain ⟨offs,ho,rfl⟩:=Option.map_eq_some_iff.1 hf
   simp only [eqAt2] at hr
   cases ha:eqAt ((xs.drop f.offset).take n) ((ys.drop f.offset).take n) offs with
   | none=>simp [ha] at hr
   | some a =>
    cases he:eqAt2 xs ys r' with
    | none=>simp [ha,he] at hr
    | some q =>
     simp only [ha,he,Option.some.injEq] at hr
     subst hr
     have hpx:(part f.type xs.toArray f.offset).run P w = .ok (.agg ((xs.drop f.offset).take n).toArray) w:=by
      simp [part,run_isAgg_of h3,run_sizeOf_of h3,List.extract_eq_take_drop]
     have hpy:(part f.type ys.toArray f.offset).run P w = .ok (.agg ((ys.drop f.offset).take n).toArray) w:=by
      simp [part,run_isAgg_of h3,run_sizeOf_of h3,List.extract_eq_take_drop]
     obtain ⟨gs,g1,g2,g3,g4,g5⟩:=eqTy_spec ho
     have hgf:P.fieldsOf f.type = gs:=by simp [Program.fieldsOf,g1]
     have e2:=run_equalIn_agg (P:=P) (w:=w) (d + 1) f.type ((xs.drop f.offset).take n).toArray ((ys.drop f.offset).take n).toArray (by rw [hgf]; exact g1) g4
     rw [hgf,run_eqFields (d:=d) gs.toList g3 (by rw [g2]; exact ha) w] at e2
     have ih:=run_eqFields2 (d:=d) fs hs he w
     simp only [Op.eqFields,if_pos h1,Sem.run_bind,hpx,hpy,Result.andThen_ok,e2,Sem.run_ite,Sem.run_pure,ih]
     cases a <;> simp
  ·cases hf
section
variable {P:Program} {n:Nat} {fr:Fr} {dst:Option Tmp} {ty:TypeId} {pos:String} {aft:Array Edge} {g:Option (Nat × Bool)}
theorem eqTy2_run {xt:TypeId} {xs ys:List Value} {l:List (Nat × Option (Nat × List Nat))} {r:Bool} (ht:eqTy2 P xt = some l) (hr:eqAt2 xs ys l = some r) (w:World) :
  P.eqGuardType P.depth xt = false∧(Op.equalIn 10000 xt (.agg xs.toArray) (.agg ys.toArray)).run P w = .ok r w:=by
 unfold eqTy2 at ht
 split at ht
 ·rename_i fs e
  split at ht
  ·rename_i hc
   simp only [Bool.and_eq_true,Bool.not_eq_true'] at hc
   have hf:P.fieldsOf xt = fs:=by simp [Program.fieldsOf,e]
   have e2:=run_equalIn_agg (P:=P) (w:=w) 9999 xt xs.toArray ys.toArray (by rw [hf]; exact e) hc.1
   rw [hf,run_eqFields2 (d:=9997) fs.toList ht hr w] at e2
   exact ⟨hc.2,e2⟩
  ·cases ht
 ·cases ht
end
theorem Cont.inB {n id:Nat} {Q:Po} {fr:Fr} {S:As} (h:Cont n (Q .normal) fr S):Cont n (Exit.inBlock id Q .normal) fr S:=fun a w k s=>h a w k s
end Go.Vg
set_option linter.unusedVariables false
set_option linter.unusedSimpArgs false
set_option maxRecDepth 20000
set_option maxHeartbeats 4000000
namespace Go.Proofs.YtmngdgclldkcfaaGreat
open Go.Vg
open Enc (R)
theorem ent230:Ent Tryz.prog 230:=en Tryz.func230
theorem ent231:Ent Tryz.prog 231:=en Tryz.func231
theorem ent232:Ent Tryz.prog 232:=en Tryz.func232
theorem ent273:Ent Tryz.prog 273:=en Tryz.func273
theorem ent274:Ent Tryz.prog 274:=en Tryz.func274
theorem ent275:Ent Tryz.prog 275:=en Tryz.func275
theorem ent276:Ent Tryz.prog 276:=en Tryz.func276
theorem ent277:Ent Tryz.prog 277:=en Tryz.func277
theorem ent309:Ent Tryz.prog 309:=en Tryz.func309
instance fd54_0:FdC Tryz.prog 54 0 0:={}
instance fd54_1:FdC Tryz.prog 54 1 1:={}
instance fd54_2:FdC Tryz.prog 54 2 2:={}
instance fd54_3:FdC Tryz.prog 54 3 3:={}
instance fd54_7:FdC Tryz.prog 54 7 8:={}
instance sl356:SlC Tryz.prog 356 (2,1,8):={}
theorem u8_5:Tryz.prog.underlying 5 = some (.int .u8):=by kernel_rfl
theorem us5:(Tryz.prog.underlying 5).isSome = true:=by kernel_rfl
theorem zr2:zeroOf Tryz.prog 2 = some (.int .i64 0):=by kernel_rfl
theorem zr22:zeroOf Tryz.prog 22 = some (.slice none 0 0):=by kernel_rfl
def wire_Put (a0_b:List UInt8) (a1_n:Int):Option (List UInt8) :=
  Option.bind (α:=Int × List UInt8) (loop (σ:=Int × List UInt8) (β:=Int × List UInt8) (fun (v8,l9) =>
  if 128 ≤ v8 then
  if l9.length < 1099511627776 then
  if 0 ≤ (7:Int)∧(7:Int) < 64 then
  some (St.next ((v8 / 2 ^ (7:Int).toNat),(l9 ++ [((UInt8.ofNat (v8 % 256).toNat) ||| (128:UInt8))])))
  else none
  else none
  else
  some (St.done (v8,l9))) (a1_n,a0_b)) fun (v2,v3) =>
  if v3.length < 1099511627776 then
  some (v3 ++ [(UInt8.ofNat (v2 % 256).toNat)])
  else none
def wire_Int (a0_n:Int):Option (List UInt8 × Int) :=
  if (a0_n < (-4611686018427387904)) ∨ (4611686018427387904 ≤ a0_n) then
  none
  else
  if a0_n < 0 then
  none
  else
  if I64 (2 * a0_n) then
  Option.bind (wire_Put [] (2 * a0_n)) fun x6 =>
  some (x6,0)
  else none
def wire_Raw (a0_b:List UInt8):Option (List UInt8 × Int) :=
  if 1048576 < (a0_b.length:Int) then
  some ([],2)
  else
  Option.bind (wire_Put [] (a0_b.length:Int)) fun x2 =>
  if x2.length + a0_b.length < 1099511627776 then
  some ((x2 ++ a0_b),0)
  else none
def fnv_Start:Option UInt64 :=
  some (14695981039346656037:UInt64)
def fnv_Sum (a0_s:UInt64) (a1_b:List UInt8):Option UInt64 :=
  Option.bind (α:=UInt64) (loop (σ:=UInt64 × Int) (β:=UInt64) (fun (v3,v4) =>
  if v4 < (a1_b.length:Int) then
  if 0 ≤ v4∧v4 < (a1_b.length:Int) then
  if I64 (v4 + 1) then
  some (St.next (((v3 ^^^ ((gi a1_b v4).toUInt64)) * (1099511628211:UInt64)),(v4 + 1)))
  else none
  else none
  else
  some (St.done v3)) (a0_s,0)) fun v2 =>
  some v2
def fnv_Bytes (a0_s:UInt64):Option (List UInt8) :=
  Option.bind (α:=List UInt8) (loop (σ:=UInt64 × List UInt8 × Int) (β:=List UInt8) (fun (v4,l5,v7) =>
  if v7 < 8 then
  if l5.length < 1099511627776 then
  if I64 (v7 + 1) then
  some (St.next ((v4 >>> (8:UInt64)),(l5 ++ [(UInt8.ofNat ((v4.toNat:Int) % 256).toNat)]),(v7 + 1)))
  else none
  else none
  else
  some (St.done l5)) (a0_s,[],0)) fun v2 =>
  some v2
def mapcode_Lay (a0_g:Grd):Option (List UInt8) :=
  Option.bind (wire_Put ([(84:UInt8),(71:UInt8)]:List UInt8) a0_g.w) fun x3 =>
  Option.bind (wire_Put x3 a0_g.h) fun x6 =>
  if x6.length + a0_g.tiles.length < 1099511627776 then
  Option.bind (fnv_Start) fun x10 =>
  Option.bind (fnv_Sum x10 (x6 ++ a0_g.tiles)) fun x11 =>
  Option.bind (fnv_Bytes x11) fun x12 =>
  if (x6 ++ a0_g.tiles).length + x12.length < 1099511627776 then
  some ((x6 ++ a0_g.tiles) ++ x12)
  else none
  else none
def image_lay_1 (a0_l:List Int) (cv0:List UInt8):Option (List UInt8) :=
  Option.bind (α:=List UInt8) (loop (σ:=Int × List UInt8) (β:=List UInt8) (fun (v4,l5) =>
  if v4 < (a0_l.length:Int) then
  if 0 ≤ v4∧v4 < (a0_l.length:Int) then
  Option.bind (wire_Put l5 (gi a0_l v4)) fun x12 =>
  if I64 (v4 + 1) then
  some (St.next ((v4 + 1),x12))
  else none
  else none
  else
  some (St.done l5)) (0,cv0)) fun v2 =>
  some v2
def image_lay (a0_w:Wld):Option (List UInt8) :=
  Option.bind (image_lay_1 ([a0_w.tick,a0_w.players,a0_w.nextid]:List Int) ([(84:UInt8),(87:UInt8)]:List UInt8)) fun x5 =>
  Option.bind (mapcode_Lay a0_w.g) fun x7 =>
  Option.bind (wire_Raw x7) fun x9 =>
  if x5.length + x9.1.length < 1099511627776 then
  Option.bind (image_lay_1 ([(a0_w.bs.length:Int)]:List Int) (x5 ++ x9.1)) fun x14 =>
  Option.bind (α:=Unit) (loop (σ:=Int) (β:=Unit) (fun v57 =>
  if v57 < (a0_w.bs.length:Int) then
  none
  else
  some (St.done ())) 0) fun _ =>
  Option.bind (image_lay_1 ([(a0_w.us.length:Int)]:List Int) x14) fun x18 =>
  Option.bind (α:=List UInt8) (loop (σ:=Int × List UInt8) (β:=List UInt8) (fun (v23,l24) =>
  if v23 < (a0_w.us.length:Int) then
  if 0 ≤ v23∧v23 < (a0_w.us.length:Int) then
  Option.bind (image_lay_1 ([(gi a0_w.us v23).id,(gi a0_w.us v23).owner,(gi a0_w.us v23).kind]:List Int) l24) fun x33 =>
  Option.bind (α:=List UInt8) (loop (σ:=Int × List UInt8) (β:=List UInt8) (fun (v45,l46) =>
  if v45 < (2:Int) then
  if 0 ≤ v45∧v45 < (2:Int) then
  Option.bind (wire_Int (gi ([((gi a0_w.us v23).pos).x,((gi a0_w.us v23).pos).y]:List Int) v45)) fun x52 =>
  if l46.length + x52.1.length < 1099511627776 then
  if I64 (v45 + 1) then
  some (St.next ((v45 + 1),(l46 ++ x52.1)))
  else none
  else none
  else none
  else
  some (St.done l46)) (0,x33)) fun v37 =>
  if I64 (((gi a0_w.us v23).goal) + 1) then
  if I64 (((gi a0_w.us v23).next) + 1) then
  Option.bind (image_lay_1 ([(((gi a0_w.us v23).goal) + 1),(((gi a0_w.us v23).next) + 1),(gi a0_w.us v23).stuck,(gi a0_w.us v23).inn,(gi a0_w.us v23).state]:List Int) v37) fun x42 =>
  if I64 (v23 + 1) then
  some (St.next ((v23 + 1),x42))
  else none
  else none
  else none
  else none
  else
  some (St.done l24)) (0,x18)) fun v21 =>
  some v21
  else none
def image_Sum (a0_w:Wld):Option UInt64 :=
  Option.bind (fnv_Start) fun x2 =>
  Option.bind (image_lay a0_w) fun x3 =>
  Option.bind (fnv_Sum x2 x3) fun x5 =>
  some x5
end Go.Proofs.YtmngdgclldkcfaaGreat
set_option linter.unusedVariables false
set_option linter.unusedSimpArgs false
set_option maxRecDepth 20000
set_option maxHeartbeats 4000000
namespace Go.Proofs.YtmngdgclldkcfaaGreat
open Go.Vg
open Enc (R)
def cmp_Less (a0_x:Int) (a1_y:Int):Option Bool :=
  Option.bind (cmp_isNaN a0_x) fun x1 =>
  Option.bind (if x1 = true then
  Option.bind (cmp_isNaN a1_y) fun x8 =>
  some (!x8)
  else
  some false) fun b4 =>
  some (decide ((b4 = true) ∨ (a0_x < a1_y)))
def slices_isNaN (a0_x:Int):Option Bool :=
  some (decide (¬ a0_x = a0_x))
def cells_down (a0_a:Int):Option Int :=
  Option.bind (fixed_Norm a0_a) fun x1 =>
  if x1 < 0 then
  if -9223372036854775807 ≤ x1∧x1 ≤ 9223372036854775807 then
  if I64 ((-x1) - 1) then
  if 0 ≤ ((-x1) - 1)∧((-x1) - 1) ≤ 9223372036854775807 then
  if I64 ((((-x1) - 1) / 131072) + 1) then
  if -9223372036854775807 ≤ ((((-x1) - 1) / 131072) + 1)∧((((-x1) - 1) / 131072) + 1) ≤ 9223372036854775807 then
  some (-((((-x1) - 1) / 131072) + 1))
  else none
  else none
  else none
  else none
  else none
  else
  if 0 ≤ x1∧x1 ≤ 9223372036854775807 then
  some (x1 / 131072)
  else none
def cells_of (a0_p:Vec):Option Cel :=
  Option.bind (cells_down a0_p.x) fun x3 =>
  Option.bind (cells_down a0_p.y) fun x4 =>
  some (⟨x3,x4⟩:Cel)
def slices_BinarySearch (a0_x:List Int) (a1_target:Int):Option (Int × Bool) :=
  Option.bind (α:=Int) (loop (σ:=Int × Int) (β:=Int) (fun (v21,v22) =>
  if v21 < v22 then
  if I64 (v21 + v22) then
  if 0 ≤ ((v21 + v22) % 18446744073709551616) then
  if I64 (((v21 + v22) % 18446744073709551616) / 2) then
  if 0 ≤ (((v21 + v22) % 18446744073709551616) / 2)∧(((v21 + v22) % 18446744073709551616) / 2) < (a0_x.length:Int) then
  Option.bind (cmp_Less (gi a0_x (((v21 + v22) % 18446744073709551616) / 2)) a1_target) fun x31 =>
  if x31 = true then
  if I64 ((((v21 + v22) % 18446744073709551616) / 2) + 1) then
  some (St.next (((((v21 + v22) % 18446744073709551616) / 2) + 1),v22))
  else none
  else
  some (St.next (v21,(((v21 + v22) % 18446744073709551616) / 2)))
  else none
  else none
  else none
  else none
  else
  some (St.done v21)) (0,(a0_x.length:Int))) fun v2 =>
  Option.bind (if v2 < (a0_x.length:Int) then
  if 0 ≤ v2∧v2 < (a0_x.length:Int) then
  Option.bind (if (gi a0_x v2) = a1_target then
  some true
  else
  if 0 ≤ v2∧v2 < (a0_x.length:Int) then
  Option.bind (slices_isNaN (gi a0_x v2)) fun x15 =>
  Option.bind (if x15 = true then
  Option.bind (slices_isNaN a1_target) fun x20 =>
  some x20
  else
  some false) fun b18 =>
  some b18
  else none) fun b12 =>
  some b12
  else none
  else
  some false) fun b5 =>
  some (v2,b5)
def army_At_1 (a0_u:Unt) (a1_id:Int):Option Int :=
  Option.bind (cmp_Compare a0_u.id a1_id) fun x2 =>
  some x2
def slices_BinarySearchFuncU (a0_x:List Unt) (a1_target:Int) (a2_cmp:(Unt × Int)→Option Int):Option (Int × Bool) :=
  Option.bind (α:=Int) (loop (σ:=Int × Int) (β:=Int) (fun (v11,v12) =>
  if v11 < v12 then
  if I64 (v11 + v12) then
  if 0 ≤ ((v11 + v12) % 18446744073709551616) then
  if I64 (((v11 + v12) % 18446744073709551616) / 2) then
  if 0 ≤ (((v11 + v12) % 18446744073709551616) / 2)∧(((v11 + v12) % 18446744073709551616) / 2) < (a0_x.length:Int) then
  Option.bind (a2_cmp ((gi a0_x (((v11 + v12) % 18446744073709551616) / 2)),a1_target)) fun x21 =>
  if x21 < 0 then
  none
  else
  some (St.next (v11,(((v11 + v12) % 18446744073709551616) / 2)))
  else none
  else none
  else none
  else none
  else
  some (St.done v11)) (0,(a0_x.length:Int))) fun v2 =>
  Option.bind (if v2 < (a0_x.length:Int) then
  if 0 ≤ v2∧v2 < (a0_x.length:Int) then
  Option.bind (a2_cmp ((gi a0_x v2),a1_target)) fun x10 =>
  some (decide (x10 = 0))
  else none
  else
  some false) fun b5 =>
  some (v2,b5)
def army_At (a0_l:List Unt) (a1_id:Int):Option (Int × Bool) :=
  Option.bind (slices_BinarySearchFuncU a0_l a1_id (fun (y0,y1)=>army_At_1 y0 y1)) fun x1 =>
  some (x1.1,x1.2)
end Go.Proofs.YtmngdgclldkcfaaGreat
set_option linter.unusedVariables false
set_option linter.unusedSimpArgs false
set_option maxRecDepth 20000
set_option maxHeartbeats 4000000
namespace Go.Proofs.YtmngdgclldkcfaaGreat
open Go.Vg
open Enc (R)
theorem ent174:Ent Tryz.prog 174:=en Tryz.func174
theorem ent238:Ent Tryz.prog 238:=en Tryz.func238
theorem ent65:Ent Tryz.prog 65:=en Tryz.func65
instance fd217_1:FdC Tryz.prog 217 1 1:={}
instance fd217_2:FdC Tryz.prog 217 2 2:={}
theorem mp215:mpTy Tryz.prog 215 = true:=by kernel_rfl
theorem st217:stTy Tryz.prog 217 = some ([.int .i64 0,.map none,.slice none 0 0,.int .i64 0,.int .i64 0],[(0,1),(1,1),(2,1),(3,1),(4,1)]):=by kernel_rfl
instance ty215:TyC Tryz.prog 215 (1,false):={}
theorem zr24:zeroOf Tryz.prog 24 = some (.agg #[.int .i64 0,.int .i64 0,.slice none 0 0]):=by kernel_rfl
theorem cache_New_walk (a0_room:Int) (w:World) {r:Option Cach × Int} (H:cache_New a0_room = some r):Calls Tryz.prog 67 #[.int .i64 a0_room] w fun e w'=>∃ g1:Nat,e = .returned (.tuple #[.pointer (optA g1 r.1),.int .i64 r.2])∧Sat w [optCh Cach_ch g1 r.1] w':=by
 unfold cache_New at H
 refine te Tryz.func67 (Sat.start w) ?_
 refine au 3 ?_
 refine T.seq fun _ k2=>T.seq fun _ k3=>T.region (au 3 ?_)
 refine RS.joinV 3 9 (.bool (decide ((a0_room < 1) ∨ (4096 < a0_room)))) [(0,_)] sb ?_ ?_
 ·refine RS.nil (k3 _ _ ?_)
  refine T.cP H rfl (fun hc3 H=>?_) (fun hc3 H=>?_)
  ·refine au 3 ?_
   obtain rfl:=sj H
   refine T.rt (Cont.ret2 rfl rfl rfl fun w' s=>?_)
   exact ⟨0,rfl,(s.deadRow).pick [0] (by decide) rfl⟩
  refine T.skip (k2 _ _ ?_)
  refine T.seq fun _ k5=>T.region (rM rfl (RS.solid (Sd.makeMap) rfl rfl fun b4=>rp (Pu.build (cells:=[_,_,_,_,_]) st217 rfl rfl) (RS.solid (Sd.box (cs:=[_,_,_,_,_]) rfl rfl) rfl rfl fun b5=>?_)))
  refine RS.weakS (fun w s=>(s.nilRow (α:=Int) 3)) ?_
  refine au 2 ?_
  refine RS.nil (k5 _ _ (kq [2,3] ?_))
  obtain rfl:=sj H
  refine T.rt (Cont.ret2 rfl rfl rfl fun w' s=>?_)
  exact ⟨b5,rfl,Cach_shut (x:=(⟨a0_room,mNil,([]:List Int),0,0⟩:Cach)) ⟨b4,(none,0)⟩ (s.pc [1,0,2])⟩
 intro hJ2
 refine RS.splitP 6 rfl (fun hc1=>?_) (fun hc1=>?_)
 ·refine au 3 ?_
  exact hJ2 _ _ ⟨dOrT hc1,rfl,trivial⟩ (fun w s=>s)
 refine au 3 ?_
 exact hJ2 _ _ ⟨dOrF hc1,rfl,trivial⟩ (fun w s=>s)
theorem cache_Cache_Clear_walk {w0:World} {F:Ch} (g0:Nat) (a0_c:Cach) {r:Cach} (H:cache_Cache_Clear a0_c = some r) (w:World) (s:Sat w0 [Cach_ch g0 a0_c,F] w):Calls Tryz.prog 110 #[.pointer (some ⟨g0,0,none⟩)] w fun e w'=>e = .returned (.tuple #[])∧Sat w0 [Cach_ch g0 r,F] w':=by
 unfold cache_Cache_Clear at H
 refine te Tryz.func110 s ?_
 refine T.ex (fun w s=>Cach_open 0 rfl s) ?_
 rintro ⟨q1,q2⟩
 refine nz ?_
 refine T.seq fun _ k1=>T.region (au 4 ?_)
 refine RS.solid (Sd.mapClear 2 mp215 rfl rfl) rfl rfl fun _=>RS.nil (k1 _ _ (kq [0] ?_))
 refine T.region (au 4 ?_)
 obtain rfl:=sj H
 refine RS.nil (Cont.end0 rfl fun w' s=>?_)
 exact ⟨rfl,Cach_shut (x:=(⟨a0_c.room,mNil,[],a0_c.hits,a0_c.misses⟩:Cach)) ⟨q1,(none,0)⟩ ((s.nilRow (α:=Int) 3).pick [1,0,2,4] (by decide) rfl)⟩
theorem ground_Own_walk (a0_g:Grd) (w:World) {v0:Value} (h0:R (hpOf w) a0_g.tiles [v0]) {r:Grd} (H:ground_Own a0_g = some r):Calls Tryz.prog 32 #[.agg #[.int .i64 a0_g.w,.int .i64 a0_g.h,v0]] w fun e w'=>∃ q1:(Option Nat × Nat),e = .returned (.agg #[.int .i64 r.w,.int .i64 r.h,rowV q1 r.tiles.length])∧Sat w [row nilH 5 (rowV q1 r.tiles.length) r.tiles] w':=by
 have hm0:=R_max h0
 obtain ⟨p0,c0,rfl⟩:=R_form h0
 unfold ground_Own at H
 refine te Tryz.func32 (Sat.start w) ?_
 refine T.seq fun _ k1=>T.region (RS.solid (Sd.box (cs:=[_,_,_]) rfl rfl) rfl rfl fun b1=>RS.solid (Sd.alloc zr24 rfl) rfl rfl fun b2=>RS.nil (k1 _ _ ?_))
 refine T.seq fun _ k2=>T.region (au 2 ?_)
 obtain ⟨x3,hx3,H⟩:=bindE H
 refine RS.solid (Sd.callN (vs:=[_]) ent65 rfl (fun w s=>slices_Clone_Byte_walk a0_g.tiles w ((Rd.base h0) w s) hx3)) rfl rfl fun q4=>au 2 ?_
 refine RS.nil (k2 _ _ (kq [1,2] ?_))
 refine au 3 ?_
 obtain rfl:=sj H
 refine T.rt (Cont.retC 1 rfl ty24.h rfl rfl rfl fun w' s=>?_)
 exact ⟨q4,rfl,s.pc [2]⟩
theorem throngref15_Room_walk (a0_n:Int) (w:World) {r:Bool} (H:throngref15_Room a0_n = some r):Calls Tryz.prog 28 #[.int .i64 a0_n] w fun e w'=>e = .returned (.bool r)∧Ext w w':=by
 unfold throngref15_Room at H
 refine te Tryz.func28 (Sat.start w) ?_
 refine au 2 ?_
 refine T.seq fun _ k2=>T.region (au 3 ?_)
 refine RS.joinV 3 8 (.bool (decide ((1 ≤ a0_n)∧(a0_n ≤ 4096)))) [(2,_)] sb ?_ ?_
 ·refine rA rfl (RS.nil (k2 _ _ ?_))
  obtain rfl:=sj H
  refine T.rt (Cont.ret1 rfl rfl fun w' s=>?_)
  exact ⟨rfl,s.ext⟩
 intro hJ2
 refine RS.splitP 5 rfl (fun hc1=>?_) (fun hc1=>?_)
 ·refine au 3 ?_
  exact hJ2 _ _ ⟨dAndT hc1,rfl,trivial⟩ (fun w s=>s)
 refine au 3 ?_
 exact hJ2 _ _ ⟨dAndF hc1,rfl,trivial⟩ (fun w s=>s)
end Go.Proofs.YtmngdgclldkcfaaGreat
