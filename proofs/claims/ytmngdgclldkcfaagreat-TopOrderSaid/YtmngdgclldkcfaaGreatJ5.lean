/-
  Texts of one's own, joined: VN VR VT VU VW VP VS.
-/
import Derived.Test.YtmngdgclldkcfaaGreatJ4
import Derived.Lib.Overlaps
import Derived.Lib.AppendZerosOnto
import Derived.Laws.StructEq
set_option linter.unusedSimpArgs false
set_option linter.unusedVariables false
namespace Go.Vg
open Enc (R)
section
variable {w0:World} {G:List Ch}
theorem Sat.rowCells {α:Type} [Enc α] [Flat α] {w:World} {k g c m:Nat} {B:Hp} {e:TypeId} {xs:List α} (s:Sat w0 G w) (hk:G[k]? = some (row B e (rowV (some g,c) m) xs)) :
  ∃ cs sp,w.heap[g]? = some (.cells (cs ++ sp).toArray e (0,0))∧RF nilH xs cs∧(cs ++ sp).length = c * Enc.sz α∧cs.length = xs.length * Enc.sz α∧m = xs.length∧m ≤ c∧c ≤ maxLen:=by
 obtain ⟨p,hp,hl,_⟩:=s.get k hk
 rcases hp with ⟨hv,_⟩ | ⟨g',cap,cs,sp,hv,h1,h2,h3,h4,h5⟩
 ·simp [rowV] at hv
 ·simp only [rowV,Option.map_some,Value.slice.injEq,Option.some.injEq,Addr.mk.injEq,and_true] at hv
  obtain ⟨rfl,rfl,rfl⟩:=hv
  exact ⟨cs,sp,hl _ _ h1,h5.any,h4,h5.length,rfl,h2,h3⟩
theorem Sat.rowPut {α β:Type} [Enc α] [Enc β] [Flat β] {w:World} {k g c m:Nat} {B:Hp} {e:TypeId} {xs:List α} (s:Sat w0 G w) (hk:G[k]? = some (row B e (rowV (some g,c) m) xs)) {xs':List β} {cs' sp':List Value} {m':Nat}
  (hr:RF nilH xs' cs') (hlen:(cs' ++ sp').length = c * Enc.sz β) (hm:m' = xs'.length) (hmc:m' ≤ c) (hcm:c ≤ maxLen):Sat w0 (G.set k (row B e (rowV (some g,c) m') xs')) (w.setRow g (cs' ++ sp').toArray):=by
 refine s.turn k hk _ rfl rfl rfl (by simp) fun p hp hlp hb=>?_
 rcases hp with ⟨hv,_⟩ | ⟨g',cap,cs,sp,hv,h1,h2,h3,h4,h5⟩
 ·simp [rowV] at hv
 simp only [rowV,Option.map_some,Value.slice.injEq,Option.some.injEq,Addr.mk.injEq,and_true] at hv
 obtain ⟨rfl,rfl,rfl⟩:=hv
 refine ⟨fun d hd hdn=>setRow_other w g d _ (fun e'=>by rw [e',h1] at hdn; cases hdn),fun d=>if d = g then some (.cells (cs' ++ sp').toArray e (0,0)) else p d,.inr ⟨g,c,cs',sp',by rw [hm]; rfl,by simp,by omega,hcm,hlen,hr.any⟩,fun d o' hdo=>?_⟩
 dsimp only at hdo
 split at hdo
 ·rename_i hdb; subst hdb; cases hdo
  exact ⟨.inl (by rw [h1]; simp),setRow_heap w d _ _ e (0,0) (hlp _ _ h1)⟩
 ·rename_i hdb
  exact ⟨.inl (by rw [hdo]; simp),by rw [setRow_other w g d _ hdb]; exact hlp _ _ hdo⟩
end
section
variable {P:Program} {n:Nat} {fr:Fr} {dst:Option Tmp} {ty:TypeId} {pos:String} {aft:Array Edge} {g:Option (Nat × Bool)} {S:As} {w0:World} {G:List Ch}
theorem Pu.capSl {e:TypeId} {x:Operand} {at':TypeId} {sz by' len cap:Nat} {p:Option Addr} (ht:slTy P at' = some (e,sz,by')) (hx:ev fr x = some (.slice p len cap)) :
  Pu P n ⟨dst,.call { callee:=.builtin .cap,args:=#[x],argTypes:=#[at'] },ty,pos,aft,g⟩ fr (.int .i64 (cap:Nat)):=fun ac kn w=>by
 obtain ⟨h1,_⟩:=slTy_spec ht
 simp [execOp,resolve,invoke,builtin,Builtin.cap_,kn.ev hx,run_underlying h1,goInt]
theorem Pu.slice3 {t e:TypeId} {x lo hi mx:Operand} {sz by' len cap:Nat} {p:Option Addr} {k1 k2 k3:IntKind} {j i m:Int} (ht:slTy P t = some (e,sz,by')) (hx:ev fr x = some (.slice p len cap)) (hl:ev fr lo = some (.int k1 j)) (hh:ev fr hi = some (.int k2 i)) (hm:ev fr mx = some (.int k3 m))
  (h:0 ≤ j∧j ≤ i∧i ≤ m∧m ≤ cap) :
  Pu P n ⟨dst,.slice t x (some lo) (some hi) (some mx),ty,pos,aft,g⟩ fr (.slice (cutP p m.toNat j.toNat sz) (i.toNat - j.toNat) (m.toNat - j.toNat)):=fun a kn w=>by
 obtain ⟨h1,inf,h2,rfl,_⟩:=slTy_spec ht
 have h0:0 ≤ i:=by omega
 have h3:0 ≤ m:=by omega
 have e1:max i 0 = i:=by omega
 have e2:max m 0 = m:=by omega
 have hb:(Instr.sliceBounds true len cap (some (.int k1 j)) (some (.int k2 i)) (some (.int k3 m))).run P w = .ok (j.toNat,i.toNat,m.toNat) w:=by
  simp [Instr.sliceBounds,Instr.sliceBound,asIntOf,h.1,h.2.1,h.2.2.1,h.2.2.2,h0,h3,e1,e2]
 have:(Instr.sliceAt t (.slice p len cap) (some (.int k1 j)) (some (.int k2 i)) (some (.int k3 m))).run P w = .ok (.slice (cutP p m.toNat j.toNat inf.size) (i.toNat - j.toNat) (m.toNat - j.toNat)) w:=by
  simp [Instr.sliceAt,Instr.slice,run_underlying h1,hb,run_sizeOf_info h2,cutP]
 simp only [execOp,kn.ev hx,Option.map_some,kn.ev hl,kn.ev hh,kn.ev hm,Sem.run_bind,this,Result.andThen_ok,Sem.run_pure]
theorem Sd.appCut {α:Type} [Enc α] [Flat α] (k i:Nat) {B:Hp} {x y:Operand} {t e:TypeId} {by' gg c m:Nat} {vy:Value} {xs ys:List α} (hk:G[k]? = some (row B e (rowV (some gg,c) m) xs))
  (ht:slTy P t = some (e,Enc.sz α,by')) (hx:ev fr x = some (rowV (some gg,c) i)) (hy:ev fr y = some vy) (hR:Rd (Sat w0 G) ys [vy]) (hi:i + ys.length ≤ m) :
  Sd P n ⟨dst,.call { callee:=.builtin .append,args:=#[x,y],argTypes:=#[t,t] },ty,pos,aft,g⟩ fr (Sat w0 G) (fun _:Unit=>rowV (some gg,c) (i + ys.length)) (fun _=>Sat w0 (G.set k (row B e (rowV (some gg,c) (i + ys.length)) (xs.take i ++ ys)))):=fun a w kn s=>by
 obtain ⟨cs,sp,h1,h2,h3,h4,rfl,h6,h7⟩:=s.rowCells hk
 obtain ⟨p',cap',e',s1,s2,s3⟩:=hR w s
 simp only [List.cons.injEq,and_true] at e'
 subst e'
 obtain ⟨hu,inf,hin,hisz,_⟩:=slTy_spec ht
 have hnews:∃ news:List Value,RF nilH ys news∧(Builtin.firstCells inf.size ys.length (.slice p' ys.length cap')).run P w = .ok news.toArray w:=by
  rcases s3 with rfl | ⟨b,o,cs',rfl,hr,ha⟩
  ·refine ⟨[],by simp [RF],?_⟩
   cases p' with
   | none=>rfl
   | some q =>
    have:=run_loadCells_list (P:=P) w q [] (fun j v hj=>by simp at hj)
    simpa [Builtin.firstCells] using this
  ·refine ⟨cs',hr.any,?_⟩
   have:=run_loadCells_list (P:=P) w ⟨b,o,none⟩ cs' (fun j v hj=>by rw [add_lit]; exact ha.cell hj)
   simp only [Builtin.firstCells]
   rw [hisz,← hr.length]; exact this
 obtain ⟨news,hn1,hn2⟩:=hnews
 have hnl:=hn1.length
 have hms:(i + ys.length) * Enc.sz α ≤ xs.length * Enc.sz α:=Nat.mul_le_mul_right _ hi
 rw [Nat.add_mul] at hms
 have hst:=run_storeCells_at (P:=P) gg (i * Enc.sz α) e news 0 (cs ++ sp).toArray w h1 (by simp only [List.size_toArray,List.length_append]; simp; omega) hn1.one
 simp only [Nat.add_zero] at hst
 have hrun:(Builtin.append_ #[t,t] ty #[rowV (some gg,c) i,.slice p' ys.length cap']).run P w = .ok (rowV (some gg,c) (i + ys.length)) (w.setRow gg ((cs ++ sp).take (i * Enc.sz α) ++ news ++ (cs ++ sp).drop (i * Enc.sz α + news.length)).toArray):=by
  have hle:i + ys.length ≤ c:=by omega
  rw [hisz] at hn2
  simp [rowV,Builtin.append_,run_underlying hu,sizeOf,typeInfo,hin,Builtin.lenOf,hle,hn2,hisz,add_lit,hst,Result.andThen]
 rw [run_builtin_append kn hx hy hrun]
 refine ⟨(),rfl,?_⟩
 have e1:(cs ++ sp).take (i * Enc.sz α) = cs.take (i * Enc.sz α):=List.take_append_of_le_length (by omega)
 rw [e1]
 refine s.rowPut hk (xs':=xs.take i ++ ys) (cs':=cs.take (i * Enc.sz α) ++ news) ((h2.take i).append hn1) ?_ (by simp; omega) (by omega) h7
 simp only [List.length_append,List.length_take,List.length_drop] at h3 ⊢
 omega
theorem Sd.clearSp {α:Type} [Enc α] [Flat α] (k a0:Nat) {B:Hp} {x:Operand} {t e:TypeId} {by' gg c m l c2:Nat} {z:Value} {xs:List α} (hk:G[k]? = some (row B e (rowV (some gg,c) m) xs))
  (ht:slTy P t = some (e,Enc.sz α,by')) (hz:zeroOf P e = some z) (hzs:z.cells.size = Enc.sz α) (hz1:∀ u ∈ z.cells.toList,u.oneCell' = true) (hx:ev fr x = some (.slice (some ⟨gg,a0 * Enc.sz α,none⟩) l c2)) (hm:xs.length ≤ a0) (hl:a0 + l ≤ c) (hl0:0 < l) :
  Sd P n ⟨dst,.call { callee:=.builtin .clear,args:=#[x],argTypes:=#[t] },ty,pos,aft,g⟩ fr (Sat w0 G) (fun _:Unit=>.tuple #[]) (fun _=>Sat w0 G):=fun a w kn s=>by
 obtain ⟨cs,sp,h1,h2,h3,h4,rfl,h6,h7⟩:=s.rowCells hk
 obtain ⟨hu,inf,hin,hisz,_⟩:=slTy_spec ht
 obtain ⟨inf',hin',hz'⟩:=Option.bind_eq_some_iff.1 hz
 rw [hin] at hin'; cases hin'
 obtain ⟨Z,hZ⟩:∃ Z:List Value,Z = (Builtin.zeroCells z.cells l).toList:=⟨_,rfl⟩
 have hZl:Z.length = l * Enc.sz α:=by rw [hZ]; simp [Builtin.zeroCells,hzs]
 have hZ1:∀ u ∈ Z,u.oneCell' = true:=by
  intro u hu
  rw [hZ] at hu
  simp only [Builtin.zeroCells,Array.toList_map,List.mem_map,Array.toList_range,List.mem_range] at hu
  obtain ⟨i,hi,rfl⟩:=hu
  by_cases hsz:z.cells.size = 0
  ·rw [hsz] at hi; simp at hi
  ·have hlt:i % z.cells.size < z.cells.size:=Nat.mod_lt _ (by omega)
   rw [getElem!_pos z.cells _ hlt]
   exact hz1 _ (by simp)
 have hms:(a0 + l) * Enc.sz α ≤ c * Enc.sz α:=Nat.mul_le_mul_right _ hl
 have hma:xs.length * Enc.sz α ≤ a0 * Enc.sz α:=Nat.mul_le_mul_right _ hm
 rw [Nat.add_mul] at hms
 have hst:=run_storeCells_at (P:=P) gg (a0 * Enc.sz α) e Z 0 (cs ++ sp).toArray w h1 (by simp only [List.size_toArray]; simp at h3 ⊢; omega) hZ1
 simp only [Nat.add_zero,List.toList_toArray] at hst
 have hex:(execOp a.eval ⟨dst,.call { callee:=.builtin .clear,args:=#[x],argTypes:=#[t] },ty,pos,aft,g⟩).run P w = .ok (.value (.tuple #[])) (w.setRow gg ((cs ++ sp).take (a0 * Enc.sz α) ++ Z ++ (cs ++ sp).drop (a0 * Enc.sz α + Z.length)).toArray):=by
  cases l with
  | zero=>omega
  | succ l =>
   rw [hZ] at hst ⊢
   simp [execOp,kn.ev hx,resolve,invoke,builtin,Builtin.clear_,run_underlying hu,zeroValue,typeInfo,hin,hz',hst]
 rw [hex]
 refine ⟨(),rfl,?_⟩
 have e1:(cs ++ sp).take (a0 * Enc.sz α) ++ Z ++ (cs ++ sp).drop (a0 * Enc.sz α + Z.length) = cs ++ (sp.take (a0 * Enc.sz α - cs.length) ++ Z ++ (cs ++ sp).drop (a0 * Enc.sz α + Z.length)):=by
  rw [List.take_append,List.take_of_length_le (by omega)]; simp
 rw [e1]
 have s2:=s.rowPut hk (xs':=xs) (cs':=cs) (sp':=sp.take (a0 * Enc.sz α - cs.length) ++ Z ++ (cs ++ sp).drop (a0 * Enc.sz α + Z.length)) (m':=xs.length) h2 (by
  simp only [List.length_append,List.length_take,List.length_drop] at h3 ⊢
  omega) rfl h6 h7
 have e2:G.set k (row B e (rowV (some gg,c) xs.length) xs) = G:=by
  obtain ⟨hl,he⟩:=List.getElem?_eq_some_iff.1 hk
  exact he ▸ List.set_getElem_self hl
 rwa [e2] at s2

theorem zeroCells_flat (z:Array Value) (k:Nat) (hz:0 < z.size):(Builtin.zeroCells z k).toList = (List.replicate k z.toList).flatten:=by
 apply List.ext_getElem?
 intro i
 have hlen:((List.replicate k z.toList).flatten).length = k * z.size:=by simp
 by_cases hi:i < k * z.size
 ·have h1:(Builtin.zeroCells z k).toList[i]? = some z[i % z.size]!:=by
   simp [Builtin.zeroCells,hi]
  rw [h1]
  have hlt:i % z.size < z.size:=Nat.mod_lt _ hz
  have key:∀ k i,i < k * z.size→((List.replicate k z.toList).flatten)[i]? = some (z[i % z.size]'(Nat.mod_lt _ hz)):=by
   intro k
   induction k with
   | zero=>intro i h; simp at h
   | succ k ih =>
    intro i h
    rw [List.replicate_succ,List.flatten_cons]
    by_cases hiz:i < z.size
    ·rw [List.getElem?_append_left (by simpa using hiz)]
     simp [Nat.mod_eq_of_lt hiz,hiz]
    ·rw [List.getElem?_append_right (by simpa using hiz)]
     have:=ih (i - z.size) (by rw [Nat.add_mul] at h; omega)
     simp only [Array.length_toList]
     rw [this]
     congr 1
     have e:i % z.size = (i - z.size) % z.size:=by
      rw [← Nat.mod_eq_sub_mod (by omega)]
     simp only [e]
  rw [key k i hi,getElem!_pos z _ hlt]
 ·rw [List.getElem?_eq_none (by simp [Builtin.zeroCells]; omega),List.getElem?_eq_none (by rw [hlen]; omega)]
theorem Sd.appZeros {α:Type} [Enc α] [Flat α] (k i:Nat) {B:Hp} {x y:Operand} {t tn e:TypeId} {by' gg c m kk:Nat} {kn kq:IntKind} {z:Value} {z0:α} {xs:List α} {kv:Int} (hk:G[k]? = some (row B e (rowV (some gg,c) m) xs))
  (ht:slTy P t = some (e,Enc.sz α,by')) (hz:zeroOf P e = some z) (hz0:R nilH z0 z.cells.toList) (hs0:0 < Enc.sz α) (htn:P.underlying tn = some (.int kn)) (hx:ev fr x = some (rowV (some gg,c) i)) (hy:ev fr y = some (.int kq kv)) (hkv:kv = kk) (hi:i ≤ xs.length)
  (h0:0 < kk) (hg:c < i + kk) (hlt:i + kk < 1099511627776) (hby:by' ≤ 128) :
  Sd P n ⟨dst,.call { callee:=.builtin .append,args:=#[x,y],argTypes:=#[t,tn] },ty,pos,aft,g⟩ fr (Sat w0 G) (fun q=>rowV q (i + kk)) (fun q=>Sat w0 (G ++ [row nilH e (rowV q (i + kk)) (xs.take i ++ List.replicate kk z0)])):=fun a w kn' s=>by
 subst hkv
 obtain ⟨cs,sp,h1,h2,h3,h4,rfl,h6,h7⟩:=s.rowCells hk
 obtain ⟨hu,inf,hin,hisz,hiby⟩:=slTy_spec ht
 obtain ⟨inf',hin',hz'⟩:=Option.bind_eq_some_iff.1 hz
 rw [hin] at hin'; cases hin'
 have hzl:z.cells.size = Enc.sz α:=by have:=Enc.len hz0; simpa using this
 have hnb:(i + kk) * by' ≤ 140737488355328:=by
  have:=Nat.mul_le_mul (show i + kk ≤ 1099511627776 by omega) hby; omega
 have hkb:kk * by' ≤ (i + kk) * by':=Nat.mul_le_mul_right _ (by omega)
 have hold:(Builtin.firstCells inf.size i (.slice (some ⟨gg,0,none⟩) i c)).run P w.drew = .ok (cs.take (i * Enc.sz α)).toArray w.drew:=by
  have hl:(cs.take (i * Enc.sz α)).length = i * Enc.sz α:=by
   rw [List.length_take,h4]
   exact Nat.min_eq_left (Nat.mul_le_mul_right _ hi)
  have:=run_loadCells_list (P:=P) w.drew ⟨gg,0,none⟩ (cs.take (i * Enc.sz α)) (fun j v hj=>by
   rw [List.getElem?_take] at hj
   split at hj
   ·rw [add_lit]
    have h1':w.drew.heap[gg]? = some (.cells (cs ++ sp).toArray e (0,0)):=h1
    simp only [World.cell?,h1']
    simp [List.getElem?_append_left (List.getElem?_eq_some_iff.1 hj).1,hj]
   ·cases hj)
  simp only [Builtin.firstCells]
  rw [hl] at this
  rw [hisz]; exact this
 have hrun:=Lib.run_append_grow_zeros w t tn ty e inf z kq kn hu htn hin hz' (some ⟨gg,0,none⟩) i c (cs.take (i * Enc.sz α)) hold kk h0 (by omega) hg (by omega) (by rw [hiby]; omega) (by rw [hiby]; exact growslice_fits hg hnb)
 obtain ⟨N,hN⟩:∃ N,N = grownCap w (i + kk) c e:=⟨_,rfl⟩
 have hN1:i + kk ≤ N∧N ≤ maxLen:=by
  rw [hN]; exact ⟨grownCap_ge w (i + kk) c e,grownCap_le_maxLen w (i + kk) c e (by unfold maxLen; omega)⟩
 have hex:(execOp a.eval ⟨dst,.call { callee:=.builtin .append,args:=#[x,y],argTypes:=#[t,tn] },ty,pos,aft,g⟩).run P w = .ok (.value (.slice (some ⟨w.heap.size,0,none⟩) (i + kk) N)) (w.drew.alloc (.cells ((cs.take (i * Enc.sz α) ++ (List.replicate kk z.cells.toList).flatten) ++ (Builtin.zeroCells z.cells (N - (i + kk))).toList).toArray e)):=by
  rw [← hN] at hrun
  have hzc:(cs.take (i * Enc.sz α)).toArray ++ Builtin.zeroCells z.cells kk ++ Builtin.zeroCells z.cells (N - (i + kk)) = ((cs.take (i * Enc.sz α) ++ (List.replicate kk z.cells.toList).flatten) ++ (Builtin.zeroCells z.cells (N - (i + kk))).toList).toArray:=by
   rw [← zeroCells_flat z.cells kk (by omega)]
   apply Array.ext'
   simp
  rw [hzc] at hrun
  have hx':ev fr x = some (.slice (some ⟨gg,0,none⟩) i c):=hx
  simp [execOp,resolve,invoke,builtin,kn'.ev hx',kn'.ev hy,hrun]
 rw [hex]
 have hl:(xs.take i ++ List.replicate kk z0).length = i + kk:=by simp [Nat.min_eq_left hi]
 have s2:=s.newRow (w':=w.drew) rfl (Ext.drew w) nilH e (xs.take i ++ List.replicate kk z0) (cs.take (i * Enc.sz α) ++ (List.replicate kk z.cells.toList).flatten) N (Builtin.zeroCells z.cells (N - (i + kk))).toList (by omega) hN1.2 ?_ ((h2.take i).append (RF.replicate hz0 kk))
 ·rw [hl] at s2
  exact ⟨(some w.heap.size,N),rfl,s2⟩
 ·have e1:((h2.take i).append (RF.replicate hz0 kk)).length = ((h2.take i).append (RF.replicate hz0 kk)).length:=rfl
  have e2:=((h2.take i).append (RF.replicate hz0 kk)).length
  rw [List.length_append,e2,hl,Array.length_toList,Builtin.zeroCells,Array.size_map,Array.size_range,hzl,← Nat.add_mul]
  congr 1; omega

def isOvl (fn:Func) (tS tb:TypeId):Prop:=(fn.name == "runtime.NumGoroutine") = false∧fn.body.isNone = true∧Extern.findNext fn = none∧Extern.find fn = some (Extern.SlicesOverlaps.overlaps #[tS,tS] #[tb])
theorem run_overlaps2 {tS tR e:TypeId} {sz by':Nat} (ht:slTy P tS = some (e,sz,by')) (w:World) (a b:Addr) (la ca lb cb:Nat) (hne:a.block ≠ b.block) {c c':Array Value} {tA tB:TypeId} {fz:Nat × Nat} (ha:w.heap[a.block]? = some (.cells c tA fz)) (hc:0 < c.size)
  (hb:w.heap[b.block]? = some (.cells c' tB (0,0))) (hc':0 < c'.size) :
  (Extern.SlicesOverlaps.overlaps #[tS,tS] #[tR] #[.slice (some a) la ca,.slice (some b) lb cb]).run P w = .ok (.bool false) w:=by
 obtain ⟨hu,inf,hin,hisz,_⟩:=slTy_spec ht
 have hnb:(a.block != b.block) = true:=by simpa using hne
 have hnb':(a.block == b.block) = false:=by simpa using hne
 have hf1:w.frozen? b = false:=by simp [World.frozen?,hb]
 have hf2:w.frozen? { block:=b.block,off:=c'.size } = false:=by simp [World.frozen?,hb]
 have hsa:w.shape? a.block = some (tA,c.size):=by simp [World.shape?,ha]
 have hsb:w.shape? b.block = some (tB,c'.size):=by simp [World.shape?,hb]
 change Sem.run P (α:=Value) (do
  let some t:=(#[tS,tS]:Array TypeId)[0]? | stuck "slices.overlaps: no parameter types"
  let .slice elem ← underlying t | stuck "slices.overlaps: slice type expected"
  let size ← sizeOf elem
  match (some a:Option Addr),(some b:Option Addr) with
  | some a,some b =>
   if la = 0 ∨ lb = 0 ∨ size = 0 then pure (Value.bool false)
   else if a.block != b.block && (← frozen a) && (← frozen b) then unsupported .addressObserved
   else do
    if a.block != b.block then do
     noView a; noView b
     if ← mayBeOne a b then return Value.bool ((← choose (.extern "sameAddr.stringBytes" 2)) == 1)
    pure (Value.bool (a.block == b.block && a.off < b.off + lb * size && b.off < a.off + la * size))
  | _,_=>pure (Value.bool false)) w = _
 by_cases h0:la = 0 ∨ lb = 0 ∨ inf.size = 0
 ·simp [run_underlying hu,run_sizeOf_info hin,h0]
 ·obtain ⟨m,hm⟩:∃ m,c.size = m + 1:=⟨c.size - 1,by omega⟩
  obtain ⟨m',hm'⟩:∃ m',c'.size = m' + 1:=⟨c'.size - 1,by omega⟩
  rw [hm] at hsa
  rw [hm'] at hsb hf2
  cases hfa:w.frozen? a <;> cases hfe:w.frozen? { block:=a.block,off:=m + 1 } <;>
   simp [run_underlying hu,run_sizeOf_info hin,h0,hnb,hnb',frozen,noView,viewAt,mayBeOne,stringish,shape,Sem.run,hsa,hsb,hf1,hf2,hfa,hfe]
theorem Qt.overlaps {f:FuncId} {fn:Func} {x y:Operand} {ts:Array TypeId} {tS tb e:TypeId} {sz by' la ca lb cb:Nat} {a b:Addr} (hf:P.funcs[f]? = some fn) (hext:isOvl fn tS tb) (ht:slTy P tS = some (e,sz,by'))
  (hx:ev fr x = some (.slice (some a) la ca)) (hy:ev fr y = some (.slice (some b) lb cb))
  (h:∀ w,S w→a.block ≠ b.block∧(∃ c t f,w.heap[a.block]? = some (.cells c t f)∧0 < c.size)∧∃ c t,w.heap[b.block]? = some (.cells c t (0,0))∧0 < c.size) :
  Qt P n ⟨dst,.call { callee:=.value (.func f),args:=#[x,y],argTypes:=ts },ty,pos,aft,g⟩ fr S (.bool false):=fun ac w kn s=>by
 obtain ⟨h1,⟨c,t,fz,h2,h3⟩,c',t',h4,h5⟩:=h w s
 have hr:(callFunc f #[.slice (some a) la ca,.slice (some b) lb cb]).run P w = .ok (.value (.bool false)) w:=by
  rw [run_callFunc_extern hf hext.1 hext.2.1 hext.2.2.1 hext.2.2.2,run_overlaps2 ht w a b la ca lb cb h1 h2 h3 h4 h5]
  rfl
 have:=(run_callF (P:=P) (dst:=dst) (ty:=ty) (pos:=pos) (aft:=aft) (g:=g) (ts:=ts) (xs:=[x,y]) (vs:=[_,_]) (by simp only [evs,hx,hy]) kn w).trans hr
 rw [this]
 exact ⟨Ext.refl w,rfl⟩
theorem apart_of {α:Type} [Enc α] {w:World} {C F:Ch} {gg:Nat} {y0:α} {p:Option Addr} {m c:Nat} (s:Sat w0 [C,F] w) (hC:∀ p,C p→∃ o,p gg = some o) (hR:Rd (Sat w0 [F]) [y0] [.slice p m c]) (hsz:0 < Enc.sz α) :
  ∃ b o,p = some ⟨b,o,none⟩∧b ≠ gg∧∃ cc t f,w.heap[b]? = some (.cells cc t f)∧0 < cc.size:=by
 have s1:Sat w0 [F] w:=s.pick [1] (by decide) rfl
 obtain ⟨p',cap',e',l1,l2,l3⟩:=hR w s1
 simp only [List.cons.injEq,Value.slice.injEq,and_true] at e'
 obtain ⟨rfl,rfl,rfl⟩:=e'
 rcases l3 with h | ⟨b,o,cs,rfl,hr,ha⟩
 ·cases h
 ·have hcl:cs.length = Enc.sz α:=by have:=hr.length; simpa using this
  obtain ⟨cc,t,f,h1,h2⟩:=ha
  have hpos:0 < cc.size:=by
   obtain ⟨v,hv⟩:∃ v,cs[0]? = some v:=⟨cs[0],List.getElem?_eq_getElem (by omega)⟩
   have:=h2 0 v hv
   have:=(Array.getElem?_eq_some_iff.1 this).1
   omega
  refine ⟨b,o,rfl,fun hb=>?_,cc,t,f,h1,hpos⟩
  subst hb
  have s2:Sat w0 [dead,F] (w.setRow b #[]):=by
   refine s.turn 0 rfl dead rfl rfl rfl (by simp) fun q hq hl hb'=>?_
   obtain ⟨oo,ho⟩:=hC q hq
   refine ⟨fun d hd hn=>setRow_other w b d _ (fun e=>by subst e; rw [ho] at hn; cases hn),fun _=>none,trivial,fun d o' h=>by cases h⟩
  have s3:Sat w0 [F] (w.setRow b #[]):=s2.pick [1] (by decide) rfl
  obtain ⟨p',cap'',e',l1',l2',l3'⟩:=hR _ s3
  simp only [List.cons.injEq,Value.slice.injEq,and_true] at e'
  obtain ⟨rfl,_,_⟩:=e'
  rcases l3' with h | ⟨b',o',cs',hq,hr',ha'⟩
  ·cases h
  ·cases hq
   have hcl':cs'.length = Enc.sz α:=by have:=hr'.length; simpa using this
   obtain ⟨cc',t',f',k1,k2⟩:=ha'
   have hset:(w.setRow b #[]).heap[b]? = some (.cells #[] t f):=by
    have k3:w.heap[b]? = some (.cells cc t f):=h1
    unfold World.setRow
    show (w.heap.modify b _)[b]? = _
    rw [Array.getElem?_modify]
    simp [k3]
   have k4:(w.setRow b #[]).heap[b]? = some (.cells cc' t' f'):=k1
   rw [hset] at k4
   cases k4
   obtain ⟨v,hv⟩:∃ v,cs'[0]? = some v:=⟨cs'[0],List.getElem?_eq_getElem (by omega)⟩
   have:=k2 0 v hv
   simp at this
theorem Sd.copyUp {α:Type} [Enc α] [Flat α] (k i:Nat) {B:Hp} {x y:Operand} {t e:TypeId} {by' gg c m dc sl sc:Nat} {xs:List α} (hk:G[k]? = some (row B e (rowV (some gg,c) m) xs))
  (ht:slTy P t = some (e,Enc.sz α,by')) (hi:i < xs.length) (hc:xs.length + 1 ≤ c) (hx:ev fr x = some (.slice (some ⟨gg,(i + 1) * Enc.sz α,none⟩) (xs.length - i) dc)) (hy:ev fr y = some (.slice (some ⟨gg,i * Enc.sz α,none⟩) sl sc)) (hsl:xs.length - i ≤ sl) :
  Sd P n ⟨dst,.call { callee:=.builtin .copy,args:=#[x,y],argTypes:=#[t,t] },ty,pos,aft,g⟩ fr (Sat w0 G) (fun _:Unit=>.int .i64 (xs.length - i:Nat)) (fun _=>Sat w0 (G.set k (row B e (rowV (some gg,c) (xs.length + 1)) (xs.take (i + 1) ++ xs.drop i)))):=fun a w kn s=>by
 obtain ⟨cs,sp,h1,h2,h3,h4,rfl,h6,h7⟩:=s.rowCells hk
 have hle:(i + 1) * Enc.sz α + (xs.length - i) * Enc.sz α ≤ c * Enc.sz α:=by rw [← Nat.add_mul]; exact Nat.mul_le_mul_right _ (by omega)
 have hi2:i * Enc.sz α + (xs.length - i) * Enc.sz α = cs.length:=by rw [← Nat.add_mul,h4]; congr 1; omega
 have hnl:(cs.drop (i * Enc.sz α)).length = (xs.length - i) * Enc.sz α:=by rw [List.length_drop]; omega
 have hi1:(i + 1) * Enc.sz α ≤ cs.length:=by rw [h4]; exact Nat.mul_le_mul_right _ hi
 have hrun:=run_copy_list (P:=P) (ty:=ty) (dc:=dc) (sc:=sc) (dl:=xs.length - i) (sl:=sl) (o:=(i + 1) * Enc.sz α) (p:=some ⟨gg,i * Enc.sz α,none⟩) (news:=cs.drop (i * Enc.sz α)) ht h1 (m:=xs.length - i) (Nat.min_eq_right hsl) hnl
  (.inr ⟨_,rfl,fun j v hj=>by
   rw [add_lit]
   rw [List.getElem?_drop] at hj
   simp only [World.cell?,h1]
   simp [List.getElem?_append_left (List.getElem?_eq_some_iff.1 hj).1,hj]⟩) (by rw [hnl]; simp only [List.size_toArray]; rw [h3]; exact hle) (fun v hv=>h2.one v (List.mem_of_mem_drop hv))
 have hex:(execOp a.eval ⟨dst,.call { callee:=.builtin .copy,args:=#[x,y],argTypes:=#[t,t] },ty,pos,aft,g⟩).run P w = .ok (.value (goInt (xs.length - i:Nat))) (w.setRow gg ((cs ++ sp).toArray.toList.take ((i + 1) * Enc.sz α) ++ cs.drop (i * Enc.sz α) ++ (cs ++ sp).toArray.toList.drop ((i + 1) * Enc.sz α + (cs.drop (i * Enc.sz α)).length)).toArray):=by
  simp [execOp,resolve,invoke,builtin,kn.ev hx,kn.ev hy,hrun]
 rw [hex]
 refine ⟨(),rfl,?_⟩
 have e1:(cs ++ sp).toArray.toList.take ((i + 1) * Enc.sz α) = cs.take ((i + 1) * Enc.sz α):=List.take_append_of_le_length hi1
 rw [e1]
 refine s.rowPut hk (xs':=xs.take (i + 1) ++ xs.drop i) (cs':=cs.take ((i + 1) * Enc.sz α) ++ cs.drop (i * Enc.sz α)) ((h2.take (i + 1)).append (h2.drop i)) ?_ (by simp; omega) hc h7
 simp only [List.length_append,List.length_take,List.length_drop] at h3 ⊢
 omega
theorem Pu.sliceLs {t e:TypeId} {x lo:Operand} {sz by' len cap b o j:Nat} {k:IntKind} {ji:Int} (ht:slTy P t = some (e,sz,by')) (hx:ev fr x = some (.slice (some ⟨b,o,none⟩) len cap)) (hl:ev fr lo = some (.int k ji)) (hj:ji = j) (h:j ≤ len) (hc:j < cap) :
  Pu P n ⟨dst,.slice t x (some lo) none none,ty,pos,aft,g⟩ fr (.slice (some ⟨b,o + j * sz,none⟩) (len - j) (cap - j)):=by
 subst hj
 have:=Pu.sliceL (P:=P) (n:=n) (dst:=dst) (ty:=ty) (pos:=pos) (aft:=aft) (g:=g) ht hx hl (by omega)
 rw [Int.toNat_natCast,cutP_lt (by omega)] at this
 exact this
theorem Pu.sliceHn {t e:TypeId} {x hi:Operand} {sz by' len cap j:Nat} {p:Option Addr} {k:IntKind} {ji:Int} (ht:slTy P t = some (e,sz,by')) (hx:ev fr x = some (.slice p len cap)) (hh:ev fr hi = some (.int k ji)) (hj:ji = j) (h:j ≤ cap) :
  Pu P n ⟨dst,.slice t x none (some hi) none,ty,pos,aft,g⟩ fr (.slice p j cap):=by
 subst hj
 have:=Pu.sliceH (P:=P) (n:=n) (dst:=dst) (ty:=ty) (pos:=pos) (aft:=aft) (g:=g) ht hx hh (by omega)
 rwa [Int.toNat_natCast] at this
theorem Pu.sliceLHs {t e:TypeId} {x lo hi:Operand} {sz by' len cap b o j i:Nat} {k k':IntKind} {ji ii:Int} (ht:slTy P t = some (e,sz,by')) (hx:ev fr x = some (.slice (some ⟨b,o,none⟩) len cap)) (hl:ev fr lo = some (.int k ji)) (hh:ev fr hi = some (.int k' ii)) (hj:ji = j) (hi':ii = i) (h:j ≤ i) (hic:i ≤ cap) (hc:j < cap) :
  Pu P n ⟨dst,.slice t x (some lo) (some hi) none,ty,pos,aft,g⟩ fr (.slice (some ⟨b,o + j * sz,none⟩) (i - j) (cap - j)):=by
 subst hj; subst hi'
 have:=Pu.sliceLH (P:=P) (n:=n) (dst:=dst) (ty:=ty) (pos:=pos) (aft:=aft) (g:=g) ht hx hl hh (by omega)
 rw [Int.toNat_natCast,Int.toNat_natCast,cutP_lt (by omega)] at this
 exact this
theorem Pu.sliceLn {t e:TypeId} {x lo:Operand} {sz by' len cap j:Nat} {p:Option Addr} {k:IntKind} {ji:Int} (ht:slTy P t = some (e,sz,by')) (hx:ev fr x = some (.slice p len cap)) (hl:ev fr lo = some (.int k ji)) (hj:ji = j) (h:j ≤ len) :
  Pu P n ⟨dst,.slice t x (some lo) none none,ty,pos,aft,g⟩ fr (.slice (cutP p cap j sz) (len - j) (cap - j)):=by
 subst hj
 have:=Pu.sliceL (P:=P) (n:=n) (dst:=dst) (ty:=ty) (pos:=pos) (aft:=aft) (g:=g) ht hx hl (by omega)
 rwa [Int.toNat_natCast] at this
theorem wrapUW (a:Int):IntKind.u64.wrap a = a % 18446744073709551616:=by simp [IntKind.wrap,IntKind.bits,IntKind.signed]
theorem Pu.convUW {x:Operand} {s d:TypeId} {k:IntKind} {a:Int} (hs:(P.underlying s).isSome = true) (hd:P.underlying d = some (.int .u64)) (hx:ev fr x = some (.int k a)) :
  Pu P n ⟨dst,.convert s d x,ty,pos,aft,g⟩ fr (.int .u64 (a % 18446744073709551616)):=by
 have:=Pu.conv (P:=P) (n:=n) (dst:=dst) (ty:=ty) (pos:=pos) (aft:=aft) (g:=g) hs hd hx
 rwa [wrapUW] at this
theorem vsl {b o o' l l' c:Nat} (ho:o = o') (hl:l = l'):some (Value.slice (some ⟨b,o,none⟩) l c) = some (.slice (some ⟨b,o',none⟩) l' c):=by rw [ho,hl]
theorem ins_grow {α:Type} {xs:List α} {i:Nat} {y z:α} (hi:i < xs.length):((((xs.take i ++ List.replicate (xs.length + 1 - i) z).take i ++ [y].take (Nat.min 1 (xs.length + 1 - i)) ++ (xs.take i ++ List.replicate (xs.length + 1 - i) z).drop (i + Nat.min 1 (xs.length + 1 - i))).take (i + 1) ++ (xs.drop i).take (Nat.min (xs.length - i) (xs.length - i)) ++
  ((xs.take i ++ List.replicate (xs.length + 1 - i) z).take i ++ [y].take (Nat.min 1 (xs.length + 1 - i)) ++ (xs.take i ++ List.replicate (xs.length + 1 - i) z).drop (i + Nat.min 1 (xs.length + 1 - i))).drop (i + 1 + Nat.min (xs.length - i) (xs.length - i)))) = xs.take i ++ [y] ++ xs.drop i:=by
 have e1:Nat.min 1 (xs.length + 1 - i) = 1:=Nat.min_eq_left (by omega)
 have e2:Nat.min (xs.length - i) (xs.length - i) = xs.length - i:=Nat.min_self _
 have l1:(xs.take i).length = i:=by rw [List.length_take]; exact Nat.min_eq_left (by omega)
 rw [e1,e2]
 have t1:(xs.take i ++ List.replicate (xs.length + 1 - i) z).take i = xs.take i:=by rw [List.take_append_of_le_length (by omega),List.take_take,Nat.min_self]
 rw [t1,List.take_of_length_le (l:=[y]) (by simp)]
 have l2:(xs.take i ++ [y]).length = i + 1:=by simp [l1]
 rw [List.take_append_of_le_length (by omega),List.take_of_length_le (l:=xs.take i ++ [y]) (by omega),List.take_of_length_le (l:=xs.drop i) (by simp)]
 have l3:List.drop (i + 1 + (xs.length - i)) (xs.take i ++ [y] ++ List.drop (i + 1) (xs.take i ++ List.replicate (xs.length + 1 - i) z)) = [] :=
  List.drop_of_length_le (by simp only [List.length_append,List.length_drop,List.length_replicate,l1,List.length_cons,List.length_nil]; omega)
 rw [l3,List.append_nil]
theorem ins_up {α:Type} {xs:List α} {i m:Nat} {y:α} (hi:i < xs.length) (hm:m = 1):((xs.take (i + 1) ++ xs.drop i).take i ++ [y].take m ++ (xs.take (i + 1) ++ xs.drop i).drop (i + m)) = xs.take i ++ [y] ++ xs.drop i:=by
 subst hm
 have l1:(xs.take (i + 1)).length = i + 1:=by rw [List.length_take]; exact Nat.min_eq_left (by omega)
 rw [List.take_append_of_le_length (by omega),List.take_take,Nat.min_eq_left (by omega),List.take_of_length_le (l:=[y]) (by simp),List.drop_append,l1,List.drop_of_length_le (by omega)]
 simp
end
end Go.Vg
set_option linter.unusedSimpArgs false
set_option linter.unusedVariables false
namespace Go.Vg
open Enc (R)
def FnQ (P:Program) (w:World) (v:Value) {α β:Type} (enc:α→List Value) (dec:β→Value) (p:α→Option β):Prop :=
  ∃ (f:FuncId) (cs:List Value),v = .func (.func f) #[] cs.toArray∧Ent P f∧∀ x r w',Ext w w'→p x = some r→Calls P f (enc x ++ cs).toArray w' fun e w''=>e = .returned (dec r)∧Ext w' w''
section
variable {P:Program} {n:Nat} {fr:Fr} {dst:Option Tmp} {ty:TypeId} {pos:String} {aft:Array Edge} {g:Option (Nat × Bool)} {S:As} {w0:World} {G:List Ch}
theorem FnQ.ext {w w1:World} {v:Value} {α β:Type} {enc:α→List Value} {dec:β→Value} {p:α→Option β} (he:Ext w w1) (h:FnQ P w v enc dec p):FnQ P w1 v enc dec p:=by
 obtain ⟨f,cs,h1,h2,h3⟩:=h
 exact ⟨f,cs,h1,h2,fun x r w' e hp=>h3 x r w' (he.trans e) hp⟩
theorem run_enterV {f:FuncId} {cs:Array Value} {xo:Operand} {xs:List Operand} {ts:Array TypeId} {vs:List Value} (he:Ent P f) (hv:ev fr xo = some (.func (.func f) #[] cs)) (hx:evs fr xs = some vs) {a:Act} (k:Knows n fr a) (w:World) :
  (execOp a.eval ⟨dst,.call { callee:=.value xo,args:=xs.toArray,argTypes:=ts },ty,pos,aft,g⟩).run P w = .ok (.enter f (vs.toArray ++ cs)) w:=by
 obtain ⟨fn,c,h1,h2,h3⟩:=he
 have h2':¬ fn.name = "runtime.NumGoroutine":=by simpa using h2
 have:=k.evs hx
 have hv':=k.ev hv
 simp [execOp,resolve,hv',Deferred.ofValue,invoke,callFunc,h1,h2',h3,this]
theorem Qt.callV {xo:Operand} {xs:List Operand} {ts:Array TypeId} {v:Value} {α β:Type} {enc:α→List Value} {dec:β→Value} {p:α→Option β} (hv:ev fr xo = some v) (hf:FnQ P w0 v enc dec p) (hs:∀ w,S w→Ext w0 w) {x:α} {r:β} (hr:p x = some r) (hx:evs fr xs = some (enc x)) :
  Qt P n ⟨dst,.call { callee:=.value xo,args:=xs.toArray,argTypes:=ts },ty,pos,aft,g⟩ fr S (dec r):=fun a w k s=>by
 obtain ⟨f,cs,rfl,he,hc⟩:=hf
 rw [run_enterV he hv hx k]
 have:=hc x r w (hs w s) hr
 rw [show (enc x).toArray ++ cs.toArray = (enc x ++ cs).toArray by simp]
 exact ⟨Ext.refl w,this⟩
theorem Pu.makeFunc {f:FuncId} {xs:List Operand} {cs:List Value} (hx:evs fr xs = some cs):Pu P n ⟨dst,.makeFunc (.func f) #[] xs.toArray,ty,pos,aft,g⟩ fr (.func (.func f) #[] cs.toArray):=fun a k w=>by
 have:=k.evs hx
 simp [execOp,Instr.makeFunc,this]
theorem Pu.shr1 {xt yt:TypeId} {x y:Operand} {a:Int} (hx:ev fr x = some (.int .u64 a)) (hy:ev fr y = some (.int .u64 1)) (ha:0 ≤ a) :
  Pu P n ⟨dst,.binOp .shr xt x y yt,ty,pos,aft,g⟩ fr (.int .u64 (a / 2)):=fun ac kn w=>by
 have h:=shift_shr_any .u64 .u64 a 1 (by decide)
 simp [execOp,kn.ev hx,kn.ev hy,binOp,eqGuard,h,IntKind.bits]
def eqTy (P:Program) (t:TypeId):Option (List Nat):=match P.underlying t with
  | some (.struct fs)=>if (fs.toList.all fun f=>f.name != "_" && (match P.underlying f.type with | some (.int _)=>true | _=>false) && tySz P f.type == some (1,false)) && !P.stoodInHeld t && !P.eqGuardType P.depth t then some (fs.toList.map (·.offset)) else none
  | _=>none
def eqAt (xs ys:List Value):List Nat→Option Bool
  | []=>some true
  | o :: r=>match xs[o]?,ys[o]? with
    | some (.int k a),some (.int k' b)=>if k = k' then (eqAt xs ys r).map fun q=>a == b && q else none
    | _,_=>none
theorem run_eqFields {P:Program} {d:Nat} {xs ys:List Value}:∀ (fs:List Field) {r:Bool},(fs.all fun f=>f.name != "_" && (match P.underlying f.type with | some (.int _)=>true | _=>false) && tySz P f.type == some (1,false)) = true→eqAt xs ys (fs.map (·.offset)) = some r→∀ w,(Op.eqFields (d + 1) xs.toArray ys.toArray fs).run P w = .ok r w
 | [],r,_,hr,w=>by cases hr; simp [Op.eqFields]
 | f :: fs,r,hf,hr,w=>by
  simp only [List.all_cons,Bool.and_eq_true,bne_iff_ne,ne_eq,beq_iff_eq] at hf
  obtain ⟨⟨⟨h1,h2⟩,h3⟩,h4⟩:=hf
  simp only [List.map_cons,eqAt] at hr
  cases hx:xs[f.offset]? with
  | none=>simp [hx] at hr
  | some x =>
   cases hy:ys[f.offset]? with
   | none=>cases x <;> simp [hx,hy] at hr
   | some y =>
    rw [hx,hy] at hr
    cases x <;> cases y <;> simp only [reduceCtorEq] at hr
    rename_i k a k' b
    by_cases hk:k = k'
    ·subst hk
     simp only [if_true] at hr
     cases he:eqAt xs ys (fs.map (·.offset)) with
     | none=>simp [he] at hr
     | some q =>
      simp only [he,Option.map_some,Option.some.injEq] at hr
      subst hr
      have hu:∃ k',P.underlying f.type = some (.int k'):=by
       split at h2
       ·rename_i k' e; exact ⟨k',e⟩
       ·cases h2
      obtain ⟨k',hu⟩:=hu
      have hpx:(part f.type xs.toArray f.offset).run P w = .ok (.int k a) w:=by
       simp [part,run_isAgg_of h3,hx]
      have hpy:(part f.type ys.toArray f.offset).run P w = .ok (.int k b) w:=by
       simp [part,run_isAgg_of h3,hy]
      have ih:=run_eqFields (d:=d) fs h4 he w
      simp only [Op.eqFields,if_pos (show f.name ≠ "_" from h1),Sem.run_bind,hpx,hpy,Result.andThen_ok,run_equalIn_int w d f.type k k' a b hu,Sem.run_ite,Sem.run_pure,ih]
      by_cases hab:a = b
      ·simp [hab]
      ·simp [hab]
    ·simp [hk] at hr
theorem eqTy_spec {P:Program} {t:TypeId} {offs:List Nat} (h:eqTy P t = some offs):∃ fs:Array Field,P.underlying t = some (.struct fs)∧fs.toList.map (·.offset) = offs∧(fs.toList.all fun f=>f.name != "_" && (match P.underlying f.type with | some (.int _)=>true | _=>false) && tySz P f.type == some (1,false)) = true∧P.stoodInHeld t = false∧P.eqGuardType P.depth t = false:=by
 unfold eqTy at h
 split at h
 ·rename_i fs e
  split at h
  ·rename_i hc
   simp only [Bool.and_eq_true,Bool.not_eq_true'] at hc
   cases h
   exact ⟨fs,e,rfl,hc.1.1,hc.1.2,hc.2⟩
  ·cases h
 ·cases h
theorem Pu.eqSt {xt yt:TypeId} {x y:Operand} {xs ys:List Value} {offs:List Nat} {r:Bool} {p:Prop} [Decidable p] (ht:eqTy P xt = some offs) (hx:ev fr x = some (.agg xs.toArray)) (hy:ev fr y = some (.agg ys.toArray)) (hr:eqAt xs ys offs = some r) (he:r = decide p) :
  Pu P n ⟨dst,.binOp .eql xt x y yt,ty,pos,aft,g⟩ fr (.bool (decide p)):=fun ac kn w=>by
 obtain ⟨fs,h1,h2,h3,h4,h5⟩:=eqTy_spec ht
 subst h2; subst he
 have hf:P.fieldsOf xt = fs:=by simp [Program.fieldsOf,h1]
 have e:=run_eqFields (d:=9998) fs.toList h3 hr w
 have e2:=run_equalIn_agg (P:=P) w 9999 xt xs.toArray ys.toArray (by rw [hf]; exact h1) h4
 rw [hf,e] at e2
 simp only [execOp,kn.ev hx,kn.ev hy,Sem.run_bind,Sem.run_pure,run_eqGuard_agg w .eql xt x y xs.toArray ys.toArray h5,Result.andThen_ok,run_eql_struct,e2]
theorem blk_ext {w w':World} {b:Nat} {cs:List Value} {e:TypeId} (he:Ext w w') (h:blk b cs e (hpOf w)):blk b cs e (hpOf w'):=he.hp _ _ h
theorem blk_of {w:World} {k b:Nat} {cs:List Value} {e:TypeId} (s:Sat w0 G w) (hk:G[k]? = some (blk b cs e)):blk b cs e (hpOf w):=(s.getBlk hk).1
theorem Qt.ldX {t e:TypeId} {x:Operand} {b o:Nat} {cs:List Value} {v:Value} (ht:tySz P t = some (1,false)) (hx:ev fr x = some (.pointer (some ⟨b,o,none⟩))) (hb:blk b cs e (hpOf w0)) (hs:∀ w,S w→Ext w0 w) (hv:cs[o]? = some v) :
  Qt P n ⟨dst,.load t x,ty,pos,aft,g⟩ fr S v:=Qt.ld ht hx fun w s=>by
 have h:=(hs w s).hp _ _ hb
 have h':w.heap[b]? = some (.cells cs.toArray e (0,0)):=h
 simp [World.cell?,h',hv]
end
end Go.Vg
set_option linter.unusedSimpArgs false
set_option linter.unusedVariables false
namespace Go.Vg
open Enc (R)
section
variable {P:Program} {n:Nat} {fr:Fr} {dst:Option Tmp} {ty:TypeId} {pos:String} {aft:Array Edge} {g:Option (Nat × Bool)} {w0:World} {G:List Ch}
end
end Go.Vg
set_option linter.unusedSimpArgs false
set_option linter.unusedVariables false
namespace Go.Vg
end Go.Vg
set_option linter.unusedSimpArgs false
set_option linter.unusedVariables false
namespace Go.Vg
open Enc (R)
open Go.RowKit (Below)
section
variable {w0 w:World} {G:List Ch}
end
section
variable {P:Program} {n:Nat} {fr:Fr} {dst:Option Tmp} {ty:TypeId} {pos:String} {aft:Array Edge} {g:Option (Nat × Bool)} {S:As} {w0:World} {G:List Ch} {Q:Po}
end
end Go.Vg
set_option linter.unusedVariables false
namespace Go.Vg
theorem bsome {α β:Type} {a:α} {k:α→Option β}:Option.bind (some a) k = k a:=rfl
theorem Ok.some {α:Type} {m:Option α} {a:α} (h:m = some a):Ok m (fun x=>x = a):=⟨a,h,rfl⟩
section
variable {α:Type} [Inhabited α]
theorem take_nextV {s:List α} {i:Int} (h:0 ≤ i∧i < s.length):s.take (i + 1).toNat = s.take i.toNat ++ [gi s i]:=by
 have hl:i.toNat < s.length:=by omega
 rw [show (i + 1).toNat = i.toNat + 1 by omega,List.take_succ_eq_append_getElem hl]
 simp [gi,List.getD,List.getElem?_eq_getElem hl]
def eqF [DecidableEq α] (a b:List α):Option Bool :=
  if ¬ (a.length:Int) = (b.length:Int) then
  some false
  else
  Option.bind (α:=Ex (Unit) (Bool)) (loop (σ:=Int) (β:=Ex (Unit) (Bool)) (fun v3 =>
  if v3 < (a.length:Int) then
  if 0 ≤ v3∧v3 < (a.length:Int) then
  if 0 ≤ v3∧v3 < (b.length:Int) then
  if ¬ (gi a v3) = (gi b v3) then
  some (St.done (Ex.up false))
  else
  if I64 (v3 + 1) then
  some (St.next (v3 + 1))
  else none
  else none
  else none
  else
  some (St.done (Ex.go ()))) 0) fun x=>x.then fun _ =>
  some true
theorem eqF_eq [DecidableEq α] {a b:List α} (ha:a.length ≤ 9223372036854775807):eqF a b = some (decide (a = b)):=by
 unfold eqF
 refine Ok.eq (Ok.ite (fun hn=>Ok.ret (decide_eq_false (fun e=>hn (by rw [e]))).symm) (fun hn=>?_))
 have hl:a.length = b.length:=by omega
 refine Ok.bind (R:=fun x=>x = if a = b then Ex.go () else Ex.up false) (Ok.loop (fun i:Int=>0 ≤ i∧i ≤ a.length∧∀ j:Int,0 ≤ j→j < i→gi a j = gi b j) (fun i=>(a.length - i).toNat) ⟨by omega,by omega,fun j h0 h1=>by omega⟩ (by unfold FUEL; omega) ?_) ?_
 ·rintro i ⟨h0,h1,hq⟩
  refine Ok.ite (fun hlt=>?_) (fun hlt=>Ok.ret ?_)
  ·refine Ok.gd ⟨h0,hlt⟩ (Ok.gd ⟨h0,by omega⟩ (Ok.ite (fun hne=>Ok.ret ?_) (fun he=>Ok.gd (by unfold I64; omega) (Ok.ret ?_))))
   ·show Ex.up false = _
    rw [if_neg (fun e=>hne (by rw [e]))]
   ·refine ⟨⟨by omega,by omega,fun j j0 j1=>?_⟩,by omega⟩
    by_cases hj:j = i
    ·subst hj; exact Decidable.not_not.1 he
    ·exact hq j j0 (by omega)
  ·show Ex.go () = _
   rw [if_pos (ext_gi hl fun j j0 j1=>hq j j0 (by omega))]
 ·rintro x rfl
  by_cases hab:a = b
  ·rw [if_pos hab]; exact Ok.ret (by rw [decide_eq_true hab])
  ·rw [if_neg hab]; exact Ok.ret (by rw [decide_eq_false hab])
end
section
variable {α:Type}
end
end Go.Vg
set_option linter.unusedVariables false
namespace Go.Vg
def Bo (m:Option Bool) (p:Prop):Prop:=Ok m fun r=>(r = true ↔ p)
theorem Bo.dec {q p:Prop} [Decidable q] (h:q ↔ p):Bo (some (decide q)) p:=Ok.ret (by rw [decide_eq_true_iff]; exact h)
theorem Bo.t {m:Option Bool} {p:Prop} (h:Bo m p) (hp:p):m = some true:=let ⟨r,e,q⟩:=h; by rw [e,q.2 hp]
theorem Bo.f {m:Option Bool} {p:Prop} (h:Bo m p) (hp:¬ p):m = some false:=by
 obtain ⟨r,e,q⟩:=h
 rw [e]
 cases r with
 | false=>rfl
 | true=>exact absurd (q.1 rfl) hp
theorem Bo.iff {m:Option Bool} {p q:Prop} (h:Bo m p) (k:p ↔ q):Bo m q:=Ok.mono h fun r e=>e.trans k
theorem scanOk {β:Type} {f:Int→Option (St Int (Ex Unit β))} {a n:Int} (G:Int→Prop) (U:β→Prop) (hn:n - a < 9223372036854775808)
  (step:∀ v,a ≤ v→v < n→(∀ u,a ≤ u→u < v→G u)→Ok (f v) fun y=>match y with | .next s=>s = v + 1∧G v | .done (.up r)=>U r | .done (.go _)=>False)
  (fin:∀ v,a ≤ v→n ≤ v→f v = some (St.done (Ex.go ()))):Ok (loop f a) fun x=>match x with | .go _=>∀ u,a ≤ u→u < n→G u | .up r=>U r:=by
 refine Ok.loop (fun v=>a ≤ v∧∀ u,a ≤ u→u < v→u < n→G u) (fun v=>(n - v).toNat) ⟨Int.le_refl _,fun u h1 h2=>by omega⟩ (by unfold FUEL; omega) ?_
 rintro v ⟨h1,h2⟩
 by_cases hv:v < n
 ·obtain ⟨y,hy,hq⟩:=step v h1 hv (fun u u0 u1=>h2 u u0 u1 (by omega))
  refine ⟨y,hy,?_⟩
  cases y with
  | next s =>
   obtain ⟨rfl,hg⟩:=hq
   refine ⟨⟨by omega,fun u u0 u1 u2=>?_⟩,by omega⟩
   by_cases e:u = v
   ·subst e; exact hg
   ·exact h2 u u0 (by omega) u2
  | done x =>
   cases x with
   | go _=>exact hq.elim
   | up r=>exact hq
 ·rw [fin v h1 (by omega)]
  exact Ok.ret (fun u u0 u1=>h2 u u0 (by omega) u1)
theorem scanBo {f:Int→Option (St Int (Ex Unit Bool))} {a n:Int} (G:Int→Prop) (hn:n - a < 9223372036854775808)
  (step:∀ v,a ≤ v→v < n→(∀ u,a ≤ u→u < v→G u)→Ok (f v) fun y=>match y with | .next s=>s = v + 1∧G v | .done (.up r)=>r = false∧¬ G v | .done (.go _)=>False)
  (fin:∀ v,a ≤ v→n ≤ v→f v = some (St.done (Ex.go ()))):Bo (Option.bind (loop f a) fun x=>x.then fun _=>some true) (∀ u,a ≤ u→u < n→G u):=by
 refine Ok.bind (scanOk G (fun r=>r = false∧¬ ∀ u,a ≤ u→u < n→G u) hn (fun v h1 h2 h3=>?_) fin) (fun x hx=>?_)
 ·obtain ⟨y,hy,hq⟩:=step v h1 h2 h3
  refine ⟨y,hy,?_⟩
  cases y with
  | next s=>exact hq
  | done x =>
   cases x with
   | go _=>exact hq
   | up r=>exact ⟨hq.1,fun h=>hq.2 (h v h1 h2)⟩
 ·cases x with
  | go _=>exact Ok.ret ⟨fun _=>hx,fun _=>rfl⟩
  | up r=>exact Ok.ret ⟨fun e=>(by rw [hx.1] at e; cases e),fun h=>absurd h hx.2⟩
theorem gi_mem2 {α:Type} [Inhabited α] {l:List α} {x:α}:x ∈ l ↔ ∃ i:Int,0 ≤ i∧i < l.length∧gi l i = x:=by
 constructor
 ·intro h
  obtain ⟨i,hi,he⟩:=List.mem_iff_getElem.1 h
  exact ⟨i,by omega,by omega,by simp [gi,List.getD,hi,he]⟩
 ·rintro ⟨i,h0,h1,rfl⟩
  exact gi_mem ⟨h0,h1⟩
end Go.Vg
