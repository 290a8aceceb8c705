/-
  Texts of one's own, joined: LN LS.
-/
import Derived.Test.YtmngdgclldkcfaaGreatRows
import Derived.Test.YtmngdgclldkcfaaGreatJ6
import Derived.Test.YtmngdgclldkcfaaGreatJ7
import Derived.Test.YtmngdgclldkcfaaGreatJ19
set_option linter.unusedVariables false
set_option linter.unusedSimpArgs false
set_option maxRecDepth 20000
set_option maxHeartbeats 4000000
namespace Go.Proofs.YtmngdgclldkcfaaGreat
open Go.Vg
open Enc (R)
theorem ent78:Ent Tryz.prog 78:=en Tryz.func78
theorem ent79:Ent Tryz.prog 79:=en Tryz.func79
theorem ent81:Ent Tryz.prog 81:=en Tryz.func81
instance fd179_0:FdC Tryz.prog 179 0 0:={}
instance fd179_1:FdC Tryz.prog 179 1 3:={}
theorem mpz144:mpZ Tryz.prog 144 = some (.pointer none):=by kernel_rfl
theorem st179:stTy Tryz.prog 179 = some ([.int .u32 0,.int .i32 0,.int .u32 0,.pointer none],[(0,3),(3,1)]):=by kernel_rfl
instance ty100:TyC Tryz.prog 100 (1,false):={}
instance ty165:TyC Tryz.prog 165 (1,false):={}
instance ty167:TyC Tryz.prog 167 (1,false):={}
theorem ul167:Tryz.prog.underlying 167 = some (.pointer 179):=by kernel_rfl
theorem zr167:zeroOf Tryz.prog 167 = some (.pointer none):=by kernel_rfl
theorem cellOf {w:World} {b o:Nat} {cs:List Value} {e:TypeId} {v:Value} (h:w.heap[b]? = some (.cells cs.toArray e (0,0))) (hv:cs[o]? = some v):w.cell? ⟨b,o,none⟩ = some v:=by
 simp [World.cell?,h,hv]
theorem Qt.ldH {w0:World} {G:List Ch} {P:Program} {n:Nat} {fr:Fr} {dst:Option Tmp} {ty:TypeId} {pos:String} {aft:Array Edge} {gd:Option (Nat × Bool)} {t e:TypeId} {x:Operand} {b o:Nat} {cs:List Value} {v:Value} {H:Hp} (k:Nat) (hk:G[k]? = some (fz H)) (ht:tySz P t = some (1,false)) (hx:ev fr x = some (.pointer (some ⟨b,o,none⟩))) (hb:blk b cs e H) (hv:cs[o]? = some v) :
  Qt P n ⟨dst,.load t x,ty,pos,aft,gd⟩ fr (Sat w0 G) v:=Qt.ld ht hx fun w s=>cellOf (Held.fz k hk w s _ _ hb) hv
theorem Qt.lookP {w0:World} {G:List Ch} {P:Program} {n:Nat} {fr:Fr} {dst:Option Tmp} {ty:TypeId} {pos:String} {aft:Array Edge} {gd:Option (Nat × Bool)} (k:Nat) {t:TypeId} {x y:Operand} {b:Nat} {L:List (Int × Value)} {i:Int} {z v:Value} (hv:(kget L i).getD z = v) (ht:mpZ P t = some z) (hx:ev fr x = some (.map (some b))) (hy:ev fr y = some (.int .i64 i)) (hk:G[k]? = some (mapL b L)) :
  Qt P n ⟨dst,.lookup t x y false,ty,pos,aft,gd⟩ fr (Sat w0 G) v:=hv ▸ Qt.lookL1 k ht hx hy hk
theorem raw_get {α:Type} {L:List (Int × (Nat × α))} {k:Int} {z:Nat × α} (h:kget L k = some z) (d:Value):(kget (raw L) k).getD d = pt z.1:=by
 unfold raw; rw [kget_mapV,h]; rfl
theorem raw_none {α:Type} {L:List (Int × (Nat × α))} {k:Int} (h:kget L k = none) (d:Value):(kget (raw L) k).getD d = d:=by
 unfold raw; rw [kget_mapV,h]; rfl
theorem raw_put {α:Type} {L:List (Int × (Nat × α))} {k:Int} (z:Nat × α):kput (raw L) k (pt z.1) = raw (kput L k z):=kput_mapV _ _ _ _
theorem abs_put {α:Type} {L:List (Int × (Nat × α))} {k:Int} (z:Nat × α):kput (abs L) k z.2 = abs (kput L k z):=kput_mapV _ _ _ _
theorem abs_get {α:Type} {L:List (Int × (Nat × α))} {k:Int} {x:α} (h:kget (abs L) k = some x):∃ z,kget L k = some z∧z.2 = x:=by
 unfold abs at h; rw [kget_mapV] at h
 obtain ⟨z,h1,h2⟩:=Option.map_eq_some_iff.1 h
 exact ⟨z,h1,h2⟩
theorem abs_none {α:Type} {L:List (Int × (Nat × α))} {k:Int} (h:kget (abs L) k = none):kget L k = none:=by
 unfold abs at h; rw [kget_mapV] at h
 exact Option.map_eq_none_iff.1 h
theorem put_get {β:Type} (L:List (Int × β)) (k:Int) (v d:β):(kget (kput L k v) k).getD d = v:=by rw [kget_put,if_pos rfl]; rfl
theorem net1_walk {w0:World} {F:Ch} (bx gF b5 b8 b9 b12:Nat) (hA:Hp) (g:Grd) (l:List Bld) (cls size:Int) {n:Net} (H:field_Open g l cls size = some n) {sv c0 m hs tv lv mv nv k:Value} (rt:R hA g.tiles [tv]) (rl:R hA l [lv]) (w:World) (s:Sat w0 [blk bx [.int .u32 0,.int .i32 1,sv,.pointer none] 179,blk gF [c0,m,hs,.int .i64 g.w,.int .i64 g.h,tv,lv,mv,nv,k] 147,blk b5 [.pointer (some ⟨gF,0,none⟩)] 100,blk b8 [.int .i64 cls] 3,blk b9 [.int .i64 size] 3,blk b12 [.pointer (some ⟨bx,0,none⟩)] 167,fz hA,F] w):Calls Tryz.prog 80 #[.pointer (some ⟨b5,0,none⟩),.pointer (some ⟨b8,0,none⟩),.pointer (some ⟨b9,0,none⟩),.pointer (some ⟨b12,0,none⟩)] w fun e w'=>e = .returned (.tuple #[])∧∃ p:Nat × (Option Nat × Nat),Sat w0 [blk bx [.int .u32 0,.int .i32 1,sv,.pointer (some ⟨p.1,0,none⟩)] 179,blk gF [c0,m,hs,.int .i64 g.w,.int .i64 g.h,tv,lv,mv,nv,k] 147,blk b5 [.pointer (some ⟨gF,0,none⟩)] 100,blk b8 [.int .i64 cls] 3,blk b9 [.int .i64 size] 3,blk b12 [.pointer (some ⟨bx,0,none⟩)] 167,fz hA,blk p.1 [.int .i64 n.g.w,.int .i64 n.g.h,tv,.int .i64 n.cls,rowV p.2 n.free.length] 233,row nilH 4 (rowV p.2 n.free.length) n.free,F] w':=by
 refine te Tryz.func80 s ?_
 refine dr mixed [1,1,0,0,1,1,0,0,1,1,1,3,0,0,4] ?_
 refine au 11 ?_
 refine RD.solid rfl (.inl rfl) rfl rfl (Sd.callN ent81 rfl (fun w s=>field_Open_walk g l cls size w (Rd.ofFz 6 rfl rt w s) (Rd.ofFz 6 rfl rl w s) H)) (fun _=>ClE.sat _ _) (fun _ _ _=>trivial) (fun _ _ _ s=>s.drop1) fun p=>?_
 refine au 3 ?_
 refine RD.nil (Cont.end0 rfl fun w' s=>?_)
 exact ⟨rfl,p,s.pc [0,1,2,3,4,5,6,8,9,7]⟩
theorem net_do {w0:World} {F:Ch} (bx gF b5 b8 b9 b12:Nat) (hA:Hp) (g:Grd) (l:List Bld) (cls size:Int) {n:Net} (H:field_Open g l cls size = some n) {sv c0 m hs tv lv mv nv k:Value} (rt:R hA g.tiles [tv]) (rl:R hA l [lv]) (w:World) (s:Sat w0 [blk bx [.int .u32 0,.int .i32 0,sv,.pointer none] 179,blk gF [c0,m,hs,.int .i64 g.w,.int .i64 g.h,tv,lv,mv,nv,k] 147,blk b5 [.pointer (some ⟨gF,0,none⟩)] 100,blk b8 [.int .i64 cls] 3,blk b9 [.int .i64 size] 3,blk b12 [.pointer (some ⟨bx,0,none⟩)] 167,fz hA,F] w) :
  Calls Tryz.prog 79 #[.pointer (some ⟨bx,0,none⟩),.func (.func 80) #[] #[.pointer (some ⟨b5,0,none⟩),.pointer (some ⟨b8,0,none⟩),.pointer (some ⟨b9,0,none⟩),.pointer (some ⟨b12,0,none⟩)]] w fun e w'=>∃ p:Nat × (Option Nat × Nat),e = .returned (.tuple #[])∧Sat w0 ([blk bx [.int .u32 1,.int .i32 0,sv,.pointer (some ⟨p.1,0,none⟩)] 179,blk gF [c0,m,hs,.int .i64 g.w,.int .i64 g.h,tv,lv,mv,nv,k] 147,blk b5 [.pointer (some ⟨gF,0,none⟩)] 100,blk b8 [.int .i64 cls] 3,blk b9 [.int .i64 size] 3,blk b12 [.pointer (some ⟨bx,0,none⟩)] 167,fz hA,blk p.1 [.int .i64 n.g.w,.int .i64 n.g.h,tv,.int .i64 n.cls,rowV p.2 n.free.length] 233,row nilH 4 (rowV p.2 n.free.length) n.free] ++ [F]) w':=by
 refine (once_80 ⟨b5,0,none⟩ ⟨b8,0,none⟩ ⟨b9,0,none⟩ ⟨b12,0,none⟩ s (k:=0) rfl (fun p:Nat × (Option Nat × Nat)=>[blk bx [.int .u32 0,.int .i32 1,sv,.pointer (some ⟨p.1,0,none⟩)] 179,blk gF [c0,m,hs,.int .i64 g.w,.int .i64 g.h,tv,lv,mv,nv,k] 147,blk b5 [.pointer (some ⟨gF,0,none⟩)] 100,blk b8 [.int .i64 cls] 3,blk b9 [.int .i64 size] 3,blk b12 [.pointer (some ⟨bx,0,none⟩)] 167,fz hA,blk p.1 [.int .i64 n.g.w,.int .i64 n.g.h,tv,.int .i64 n.cls,rowV p.2 n.free.length] 233,row nilH 4 (rowV p.2 n.free.length) n.free,F]) (fun p=>[sv,.pointer (some ⟨p.1,0,none⟩)]) (fun _=>rfl) (fun w1 s1=>net1_walk bx gF b5 b8 b9 b12 hA g l cls size H rt rl w1 s1)).mono ?_
 rintro e w' ⟨he,p,s'⟩
 exact ⟨p,he,s'⟩
theorem net_done_walk {w0:World} {F:Ch} (g0:Nat) (x:Fld) (g:Grd) (l:List Bld) (cls size:Int) {v0 v1:Value} (h0:Rd (Sat w0 [F]) g.tiles [v0]) (h1:Rd (Sat w0 [F]) l [v1]) {x1:Fld} (H1:fields_on x g l = some x1) (g1:I64 (4 * cls)) (g2:I64 (4 * cls + size)) {n:Net} (K:kget x1.nets (4 * cls + size) = some n) (w:World) (s:Sat w0 [Fld_ch g0 x,F] w):Calls Tryz.prog 40 #[.pointer (some ⟨g0,0,none⟩),.agg #[.int .i64 g.w,.int .i64 g.h,v0],v1,.int .i64 cls,.int .i64 size] w fun e w'=>∃ z:{z:FldIn x1 × Nat // NetB z.1.hA z.2 n},e = .returned (.pointer (some ⟨z.1.2,0,none⟩))∧Sat w0 ([blk g0 [.pointer (some ⟨z.1.1.gc,0,none⟩),.int .i64 x1.made,.bool x1.has,.int .i64 x1.g.w,.int .i64 x1.g.h,z.1.1.tv,z.1.1.lv,.map (some z.1.1.gn),.map (some z.1.1.gw),.int .i64 x1.count] 147,Cach_ch z.1.1.gc x1.c,mapL z.1.1.gn (raw z.1.1.N),mapL z.1.1.gw (raw z.1.1.W),fz z.1.1.hA] ++ [F]) w':=by
 refine te Tryz.func40 s ?_
 refine T.seq fun _ k1=>T.region (RS.solid (Sd.box (cs:=[_]) rfl rfl) rfl rfl fun b5=>RS.solid (Sd.box (cs:=[_,_,_]) rfl rfl) rfl rfl fun b6=>RS.solid (Sd.box (cs:=[_]) rfl rfl) rfl rfl fun b8=>RS.solid (Sd.box (cs:=[_]) rfl rfl) rfl rfl fun b9=>rA rfl (RS.nil (k1 _ _ (kq [2,5,6,8,9] ?_))))
 refine T.seq fun _ k2=>T.region (au 3 ?_)
 refine RS.solid (Sd.callF0 0 ent78 rfl rfl (fun w s=>fields_on_walk g0 x g l (Rd.rest 1 rfl (by decide) h0) (Rd.rest 1 rfl (by decide) h1) H1 w s)) rfl rfl fun _=>RS.nil (k2 _ _ (kq [5,8,9] ?_))
 refine T.seq fun _ k3=>T.region (rq (Qt.ldB 4 ty3.h rfl rfl rfl) (rp (Pu.mulS rfl rfl g1) (rq (Qt.ldB 5 ty3.h rfl rfl rfl) (rp (Pu.addS rfl rfl g2) (rA rfl (RS.nil (k3 _ _ (kq [5,8,9,11] ?_))))))))
 refine T.seq fun _ k4=>T.seq fun _ k5=>?_
 refine T.ex (fun w s=>Fld_open 0 rfl s) fun q=>?_
 show T _ _ _ _ (Sat w0 [blk g0 [.pointer (some ⟨q.gc,0,none⟩),.int .i64 x1.made,.bool x1.has,.int .i64 x1.g.w,.int .i64 x1.g.h,q.tv,q.lv,.map (some q.gn),.map (some q.gw),.int .i64 x1.count] 147,F,blk b5 [.pointer (some ⟨g0,0,none⟩)] 100,blk b6 [.int .i64 g.w,.int .i64 g.h,v0] 24,blk b8 [.int .i64 cls] 3,blk b9 [.int .i64 size] 3,Cach_ch q.gc x1.c,mapL q.gn (raw q.N),mapL q.gw (raw q.W),fz q.hA]) _
 obtain ⟨z,hz,hzn⟩:=abs_get (q.hN ▸ K)
 obtain ⟨sv,nb,a1,a2⟩:=q.aN _ (kget_mem hz)
 refine T.region (au 5 ?_)
 refine rq (Qt.lookP 7 (raw_get hz _) mpz144 rfl rfl rfl) (rp (Pu.eqNil ul167 rfl) (RS.nil (k5 _ _ ?_)))
 refine T.cond rfl (fun hc27=>?_) (fun hc27=>?_)
 ·cases hc27 -- end
 refine T.skip (k4 _ _ (kq [5,8,9,11] ?_))
 refine T.seq fun _ k6=>T.region (au 5 ?_)
 refine rq (Qt.lookP 7 (raw_get hz _) mpz144 rfl rfl rfl) (RS.solid (Sd.alloc zr167 rfl) rfl rfl fun b12=>RS.solid (Sd.stB (cs':=[_]) 10 ty167.h rfl rfl rfl rfl rfl rfl rfl rfl) rfl rfl fun _=>RS.nil (k6 _ _ (kq [5,8,9,12] ?_)))
 refine T.seq fun _ k7=>T.region (au 3 ?_)
 refine rp (Pu.makeFunc (cs:=[_,_,_,_]) rfl) (rq (Qt.call ent79 rfl fun w s=>(do_done ⟨z.1,0,none⟩ _ w (cellOf (Held.fz 9 rfl w s _ _ a1) rfl)).mono fun e w' ⟨he,hw⟩=>⟨he,hw ▸ Ext.refl w⟩) (RS.nil (k7 _ _ (kq [12] ?_))))
 refine T.seq fun _ k8=>T.region (au 3 ?_)
 refine rq (Qt.ldH 9 rfl ty165.h rfl a1 rfl) (rA rfl (RS.nil (k8 _ _ (kq [10] ?_))))
 refine T.retTo (by with_reducible ((repeat (first | apply RetTo.seq | apply RetTo.blk)); exact RetTo.refl _)) (Cont.ret1 rfl rfl fun w' s=>?_)
 subst hzn
 exact ⟨⟨(q,nb),a2⟩,rfl,s.pc [0,6,7,8,9,1]⟩
theorem net_new_walk {w0:World} {F:Ch} (g0:Nat) (x:Fld) (g:Grd) (l:List Bld) (cls size:Int) {v0 v1:Value} (h0:Rd (Sat w0 [F]) g.tiles [v0]) (h1:Rd (Sat w0 [F]) l [v1]) {x1:Fld} (H1:fields_on x g l = some x1) (g1:I64 (4 * cls)) (g2:I64 (4 * cls + size)) {n:Net} (K:kget x1.nets (4 * cls + size) = none) (H2:field_Open x1.g x1.l cls size = some n) (w:World) (s:Sat w0 [Fld_ch g0 x,F] w):Calls Tryz.prog 40 #[.pointer (some ⟨g0,0,none⟩),.agg #[.int .i64 g.w,.int .i64 g.h,v0],v1,.int .i64 cls,.int .i64 size] w fun e w'=>∃ z:{z:FldIn (⟨x1.c,x1.made,x1.has,x1.g,x1.l,kput x1.nets (4 * cls + size) n,x1.ways,x1.count⟩:Fld) × Nat // NetB z.1.hA z.2 n},e = .returned (.pointer (some ⟨z.1.2,0,none⟩))∧Sat w0 ([blk g0 [.pointer (some ⟨z.1.1.gc,0,none⟩),.int .i64 (⟨x1.c,x1.made,x1.has,x1.g,x1.l,kput x1.nets (4 * cls + size) n,x1.ways,x1.count⟩:Fld).made,.bool (⟨x1.c,x1.made,x1.has,x1.g,x1.l,kput x1.nets (4 * cls + size) n,x1.ways,x1.count⟩:Fld).has,.int .i64 (⟨x1.c,x1.made,x1.has,x1.g,x1.l,kput x1.nets (4 * cls + size) n,x1.ways,x1.count⟩:Fld).g.w,.int .i64 (⟨x1.c,x1.made,x1.has,x1.g,x1.l,kput x1.nets (4 * cls + size) n,x1.ways,x1.count⟩:Fld).g.h,z.1.1.tv,z.1.1.lv,.map (some z.1.1.gn),.map (some z.1.1.gw),.int .i64 (⟨x1.c,x1.made,x1.has,x1.g,x1.l,kput x1.nets (4 * cls + size) n,x1.ways,x1.count⟩:Fld).count] 147,Cach_ch z.1.1.gc (⟨x1.c,x1.made,x1.has,x1.g,x1.l,kput x1.nets (4 * cls + size) n,x1.ways,x1.count⟩:Fld).c,mapL z.1.1.gn (raw z.1.1.N),mapL z.1.1.gw (raw z.1.1.W),fz z.1.1.hA] ++ [F]) w':=by
 refine te Tryz.func40 s ?_
 refine T.seq fun K1 hK1=>T.region (RS.solid (Sd.box (cs:=[_]) rfl rfl) rfl rfl fun b5=>RS.solid (Sd.box (cs:=[_,_,_]) rfl rfl) rfl rfl fun b6=>RS.solid (Sd.box (cs:=[_]) rfl rfl) rfl rfl fun b8=>RS.solid (Sd.box (cs:=[_]) rfl rfl) rfl rfl fun b9=>rA rfl (RS.nil (hK1 _ _ (kq [2,5,6,8,9] ?_))))
 refine T.seq fun K2 hK2=>T.region (au 3 ?_)
 refine RS.solid (Sd.callF0 0 ent78 rfl rfl (fun w s=>fields_on_walk g0 x g l (Rd.rest 1 rfl (by decide) h0) (Rd.rest 1 rfl (by decide) h1) H1 w s)) rfl rfl fun _=>RS.nil (hK2 _ _ (kq [5,8,9] ?_))
 refine T.seq fun K3 hK3=>T.region (rq (Qt.ldB 4 ty3.h rfl rfl rfl) (rp (Pu.mulS rfl rfl g1) (rq (Qt.ldB 5 ty3.h rfl rfl rfl) (rp (Pu.addS rfl rfl g2) (rA rfl (RS.nil (hK3 _ _ (kq [5,8,9,11] ?_))))))))
 refine T.seq fun _ k4=>T.seq fun _ k5=>?_
 refine T.ex (fun w s=>Fld_open 0 rfl s) fun q=>?_
 show T _ _ _ _ (Sat w0 [blk g0 [.pointer (some ⟨q.gc,0,none⟩),.int .i64 x1.made,.bool x1.has,.int .i64 x1.g.w,.int .i64 x1.g.h,q.tv,q.lv,.map (some q.gn),.map (some q.gw),.int .i64 x1.count] 147,F,blk b5 [.pointer (some ⟨g0,0,none⟩)] 100,blk b6 [.int .i64 g.w,.int .i64 g.h,v0] 24,blk b8 [.int .i64 cls] 3,blk b9 [.int .i64 size] 3,Cach_ch q.gc x1.c,mapL q.gn (raw q.N),mapL q.gw (raw q.W),fz q.hA]) _
 have K2:=abs_none (q.hN ▸ K)
 refine T.region (au 5 ?_)
 refine rq (Qt.lookP 7 (raw_none K2 _) mpz144 rfl rfl rfl) (rp (Pu.eqNil ul167 rfl) (RS.nil (k5 _ _ ?_)))
 refine T.cond rfl (fun hc27=>?_) (fun hc27=>?_)
 ·refine kq [5,8,9,11] ?_
  refine T.region (au 5 ?_)
  refine rp (Pu.build (cells:=[_,_,_,_]) st179 rfl rfl) (RS.solid (Sd.box (cs:=[_,_,_,_]) rfl rfl) rfl rfl fun b34=>RS.solid (Sd.mapPut 7 mpz144 rfl rfl rfl rfl) rfl rfl fun _=>RS.nil (k4 _ _ (kq [5,8,9,11] ?_)))
  refine T.seq fun _ k6=>T.region (au 5 ?_)
  refine rq (Qt.lookP 7 (put_get _ _ _ _) mpz144 rfl rfl rfl) (RS.solid (Sd.alloc zr167 rfl) rfl rfl fun b12=>RS.solid (Sd.stB (cs':=[_]) 11 ty167.h rfl rfl rfl rfl rfl rfl rfl rfl) rfl rfl fun _=>RS.nil (k6 _ _ (kq [5,8,9,12] ?_)))
  refine T.seq fun _ k7=>T.region (au 3 ?_)
  refine rp (Pu.makeFunc (cs:=[_,_,_,_]) rfl) (RS.solid (Sd.call ent79 rfl (fun w s=>callFr (A:=[_,_,_,_,_,_,_]) (B:=[_,_,_,_,_]) (fun w s=>net_do b34 g0 b5 b8 b9 b12 q.hA x1.g x1.l cls size H2 q.rt q.rl w s) (s.pc [10,0,2,4,5,11,9,1,3,6,7,8]))) rfl rfl fun p=>RS.nil (k7 _ _ (kq [12] ?_)))
  refine T.seq fun _ k8=>T.region (au 5 ?_)
  refine RS.nil (k8 _ _ (kq [10] ?_))
  refine T.retTo (by with_reducible ((repeat (first | apply RetTo.seq | apply RetTo.blk)); exact RetTo.refl _)) (Cont.ret1 rfl rfl fun w' s=>?_)
  obtain ⟨hB,⟨l1,p1,hp1,k1⟩,s⟩:=s.absorb 6 8 rfl rfl (by decide)
  obtain ⟨hC,⟨l2,p2,hp2,k2⟩,s⟩:=s.absorb 6 7 rfl rfl (by decide)
  obtain ⟨hD,⟨l3,p3,hp3,k3⟩,s⟩:=s.absorb 6 0 rfl rfl (by decide)
  have hg:n.g = x1.g:=by
   unfold field_Open at H2
   obtain ⟨y,_,H2⟩:=bindE H2
   cases H2; rfl
  have nb:NetB hD p.1 n:=⟨_,_,l3 _ _ (k2 _ _ hp2),Enc.mono (Hp.le_trans (Hp.le_trans l1 l2) l3) (by rw [hg]; exact q.rt),Enc.mono (Hp.le_trans k1 (Hp.le_trans l2 l3)) (row_R hp1)⟩
  have hl:q.hA.le hD:=Hp.le_trans (Hp.le_trans l1 l2) l3
  refine ⟨⟨(⟨q.gc,q.gn,q.gw,q.tv,q.lv,hD,kput q.N (4 * cls + size) (b34,n),q.W,?_,q.hW,?_,fun e he=>(q.aW e he).mono hl,Enc.mono hl q.rt,Enc.mono hl q.rl⟩,p.1),nb⟩,rfl,?_⟩
  ·show kput x1.nets _ n = _
   rw [q.hN]; exact abs_put (b34,n)
  ·intro e he
   rcases mem_kput he with rfl | ⟨he,_⟩
   ·exact ⟨_,p.1,k3 _ _ hp3,nb⟩
   exact (q.aN e he).mono hl
  have e1:=raw_put (L:=q.N) (k:=4 * cls + size) (b34,n)
  have s2:=s.pick (G':=[blk g0 [.pointer (some ⟨q.gc,0,none⟩),.int .i64 x1.made,.bool x1.has,.int .i64 x1.g.w,.int .i64 x1.g.h,q.tv,q.lv,.map (some q.gn),.map (some q.gw),.int .i64 x1.count] 147,Cach_ch q.gc x1.c,mapL q.gn (kput (raw q.N) (4 * cls + size) (pt b34)),mapL q.gw (raw q.W),fz hD,F]) [1,11,12,13,6,9] (by decide) rfl
  rw [e1] at s2
  exact s2
 cases hc27 -- end
end Go.Proofs.YtmngdgclldkcfaaGreat
set_option linter.unusedVariables false
set_option linter.unusedSimpArgs false
set_option maxRecDepth 20000
set_option maxHeartbeats 4000000
namespace Go.Proofs.YtmngdgclldkcfaaGreat
open Go.Vg
open Enc (R)
attribute [local go_sem] Oper.semAt_some
theorem ent355:Ent Tryz.prog 355:=en Tryz.func355
theorem ent362:Ent Tryz.prog 362:=en Tryz.func362
theorem ent363:Ent Tryz.prog 363:=en Tryz.func363
theorem ent369:Ent Tryz.prog 369:=en Tryz.func369
theorem mpz145:mpZ Tryz.prog 145 = some (.pointer none):=by kernel_rfl
theorem zr145:zeroOf Tryz.prog 145 = some (.map none):=by kernel_rfl
theorem back_make (q:Option Nat × Nat) (n:Nat) (w:World):Calls Tryz.prog 363 #[rowV q n] w fun e w'=>∃ b:Nat,e = .returned (.func (.func 369) #[] #[.pointer (some ⟨b,0,none⟩)])∧Sat w [blk b [rowV q n] 35] w':=by
 refine te Tryz.func363 (Sat.start w) ?_
 refine T.seq fun _ k1=>T.region (RS.solid (Sd.box (cs:=[_]) rfl rfl) rfl rfl fun b1=>rA rfl (RS.nil (k1 _ _ ?_)))
 refine T.seq fun _ k2=>T.region (rp (Pu.makeFunc (cs:=[_]) rfl) (rA rfl (RS.nil (k2 _ _ (kq [2] ?_)))))
 refine T.retTo (by with_reducible ((repeat (first | apply RetTo.seq | apply RetTo.blk)); exact RetTo.refl _)) (Cont.ret1 rfl rfl fun w' s=>?_)
 exact ⟨b1,rfl,s⟩
theorem run_yieldV {P:Program} {n:Nat} {fr:Fr} {dst:Option Tmp} {ty:TypeId} {pos:String} {aft:Array Edge} {gd:Option (Nat × Bool)} {l:Nat} {xo:Operand} {xs:List Operand} {ts:Array TypeId} {vs:List Value} (hv:ev fr xo = some (.func (.yield l) #[] #[])) (hx:evs fr xs = some vs) {a:Go.Act} (k:Knows n fr a) (w:World) :
  (execOp a.eval ⟨dst,.call { callee:=.value xo,args:=xs.toArray,argTypes:=ts },ty,pos,aft,gd⟩).run P w = (Instr.yield l vs.toArray).run P w:=by
 have:=k.evs hx
 have hv':=k.ev hv
 simp [execOp,resolve,hv',Deferred.ofValue,invoke,this]
theorem back_walk {w0:World} (bs:Nat) (q:Option Nat × Nat) (xs:List Int) (hx0:xs.length < 1099511627776) (GG:Nat→List Ch) (jb jr:Nat) (hb:∀ k,(GG k)[jb]? = some (blk bs [rowV q xs.length] 35)) (hr:∀ k,(GG k)[jr]? = some (row nilH 3 (rowV q xs.length) xs)) (l:Nat) (E:List Ch) (w:World) (s:Sat w0 (GG 0 ++ E) w)
  (hR:∀ k w1,k < xs.length→Sat w0 (GG k ++ E) w1→∃ fn tmps assign body,(Instr.yield l #[.int .i64 ((xs.length:Int) - 1 - (k:Nat)),.int .i64 (gi xs ((xs.length:Int) - 1 - (k:Nat)))]).run Tryz.prog w1 = .ok (.round l fn tmps assign body) w1∧RoundIn (WF none) 0 Tryz.prog l fn tmps assign body w1 fun e w'=>e = .returned (.bool true)∧Sat w0 (GG (k + 1) ++ E) w') :
  CallsIn (WF none) 0 Tryz.prog 369 (#[.func (.yield l) #[] #[]] ++ #[.pointer (some ⟨bs,0,none⟩)]) w fun e w'=>(∃ v,e = .returned v)∧Sat w0 (GG xs.length ++ E) w':=by
 have kb:∀ k,(GG k ++ E)[jb]? = some (blk bs [rowV q xs.length] 35):=fun k=>by
  rw [List.getElem?_append_left (List.getElem?_eq_some_iff.1 (hb k)).1]; exact hb k
 have kr:∀ k,(GG k ++ E)[jr]? = some (row nilH 3 (rowV q xs.length) xs):=fun k=>by
  rw [List.getElem?_append_left (List.getElem?_eq_some_iff.1 (hr k)).1]; exact hr k
 refine callsWF (TR.enter (args:=[_,_]) (S:=Sat w0 (GG 0 ++ E)) Tryz.func369 rfl rfl s ?_)
 refine TR.seq fun _ k1=>?_
 refine TR.region ?_
 refine RR.q (Qt.ldB jb ty35.h rfl (kb 0) rfl) rfl rfl ?_
 refine RR.p (Pu.lenSl sl35.h rfl) rfl rfl ?_
 refine RR.p (Pu.subS rfl rfl (by omega)) rfl rfl ?_
 refine RR.p (Pu.assign rfl) rfl rfl ?_
 refine RR.nil (k1 _ _ _ ?_)
 refine TR.block ?_
 refine TR.loop (σ:=Nat) (fun k=>[(0,.func (.yield l) #[] #[]),(1,.pointer (some ⟨bs,0,none⟩)),(3,.int .i64 ((xs.length:Int) - 1 - (k:Nat)))]) (fun k=>Sat w0 (GG k ++ E)) (fun k=>k ≤ xs.length) (fun k=>xs.length - k) 0 (Nat.zero_le _) ⟨rfl,rfl,congrArg (fun z=>some (Value.int .i64 z)) (show (xs.length:Int) - 1 = (xs.length:Int) - 1 - ((0:Nat):Int) by omega),trivial⟩ (fun _ s=>s) ?_
 intro k hk K2 hK2
 refine TR.seq fun _ k3=>?_
 refine TR.seq fun _ k4=>?_
 refine TR.region ?_
 refine RR.p (Pu.move rfl) rfl rfl ?_
 refine RR.p (Pu.bin rfl rfl rfl) rfl rfl ?_
 refine RR.nil (k4 _ _ _ ?_)
 refine TR.cond rfl (fun hc=>?_) (fun hc=>?_)
 ·have hc:=of_decide_eq_true hc
  refine TR.skip (k3 _ _ _ ?_)
  refine TR.know (p:=∃ g cap,q = (some g,cap)) (fun w s=>s.row_some (k:=jr) (kr k) (by omega)) ?_
  rintro ⟨g,cap,rfl⟩
  refine TR.seq fun _ k5=>?_
  refine TR.block ?_
  refine TR.seq fun _ k6=>?_
  refine TR.region ?_
  refine RR.p (Pu.move rfl) rfl rfl ?_
  refine RR.p (Pu.move rfl) rfl rfl ?_
  refine RR.q (Qt.ldB jb ty35.h rfl (kb k) rfl) rfl rfl ?_
  refine RR.p (Pu.move rfl) rfl rfl ?_
  refine RR.p (Pu.indexSl sl35.h rfl rfl (by omega)) rfl rfl ?_
  refine RR.q (Qt.ld0 (α:=Int) (Rd.ofRowN jr (kr k)) ty3.h rfl rfl (by omega) (by rintro _ _ rfl; rfl)) rfl rfl ?_
  refine RR.round (l:=l) (val:=fun _:Unit=>.bool true) (S':=fun _=>Sat w0 (GG (k + 1) ++ E)) (by intro c h; cases h) (fun a w kn s=>?_) rfl rfl fun _=>?_
  ·obtain ⟨fn,tmps,assign,body,h1,h2⟩:=hR k w (by omega) s
   refine ⟨fn,tmps,assign,body,?_,h2.mono fun e w' ⟨h3,h4⟩=>⟨(),h3,h4⟩⟩
   exact (run_yieldV (xs:=[_,_]) rfl rfl kn w).trans h1
  refine RR.p (Pu.not rfl) rfl rfl ?_
  refine RR.nil (k6 _ _ _ ?_)
  refine TR.cond rfl (fun h=>by cases h) (fun _=>?_)
  refine TR.skip (k5 _ _ _ ?_)
  refine TR.region ?_
  refine RR.p (Pu.move rfl) rfl rfl ?_
  refine RR.p (Pu.subS rfl rfl (by omega)) rfl rfl ?_
  refine RR.p (Pu.assign rfl) rfl rfl ?_
  exact RR.nil (hK2 _ _ (k + 1) (by omega) (by omega) ⟨rfl,rfl,congrArg (fun z=>some (Value.int .i64 z)) (show (xs.length:Int) - 1 - (k:Nat) - 1 = (xs.length:Int) - 1 - ((k + 1:Nat):Int) by omega),trivial⟩ (fun _ s=>s))
 ·have hc:=of_decide_eq_false hc
  have hkn:k = xs.length:=by omega
  subst hkn
  refine TR.exitTo (ExTo.seq (ExTo.seq ExTo.hereN)) ?_
  exact CR.endN rfl fun w s=>⟨⟨_,rfl⟩,s⟩
theorem enters_ent {P:Program} {f:FuncId} (he:Ent P f) (args:Array Value) (w:World):(callFunc f args).run P w = .ok (.enter f args) w:=by
 obtain ⟨fn,c,h1,h2,h3⟩:=he
 have h2':¬ fn.name = "runtime.NumGoroutine":=by simpa using h2
 simp [callFunc,h1,h2',h3]
def stepF {α:Type} (L:List (Int × α)) (key:Int) (z:Cach × List (Int × α)):Option (Cach × List (Int × α)):=Option.bind (cache_Cache_Get z.1 key) fun y =>
  if y.2.1 = true then Option.bind (kget L y.1) fun v=>some (y.2.2,kput z.2 y.1 v) else some (y.2.2,z.2)
theorem sweep_states {α:Type} {L:List (Int × α)}:∀ {r:List Int} {c:Cach} {K:List (Int × α)} {z:Cach × List (Int × α)},sweepL L r c K = some z→∃ st:Nat→Cach × List (Int × α),st 0 = (c,K)∧(∀ k,k < r.length→stepF L (gi r k) (st k) = some (st (k + 1)))∧st r.length = z
 | [],c,K,z,h=>⟨fun _=>(c,K),rfl,fun k hk=>by simp at hk,Option.some.inj h⟩
 | key :: r,c,K,z,h=>by
  have h2:∃ u,stepF L key (c,K) = some u∧sweepL L r u.1 u.2 = some z:=by
   simp only [sweepL] at h
   obtain ⟨y,hy,h⟩:=bindE h
   simp only [stepF,hy,Option.bind_some]
   by_cases hc:y.2.1 = true
   ·rw [if_pos hc] at h ⊢
    obtain ⟨v,hv,h⟩:=bindE h
    exact ⟨_,by rw [hv]; rfl,h⟩
   ·rw [if_neg hc] at h ⊢
    exact ⟨_,rfl,h⟩
  obtain ⟨u,h3,h4⟩:=h2
  obtain ⟨st,e0,es,en⟩:=sweep_states h4
  refine ⟨fun k=>match k with | 0=>(c,K) | k + 1=>st k,rfl,fun k hk=>?_,en⟩
  cases k with
  | zero=>show stepF L (gi (key :: r) 0) (c,K) = some (st 0); rw [e0]; exact h3
  | succ k =>
   have h5:=es k (by simpa using hk)
   show stepF L (gi (key :: r) ((k + 1:Nat):Int)) (st k) = some (st (k + 1))
   rw [show gi (key :: r) ((k + 1:Nat):Int) = gi r k by simp [gi]]
   exact h5
theorem gi_rev {xs:List Int} {k:Nat} (h:k < xs.length):gi xs.reverse k = gi xs ((xs.length:Int) - 1 - (k:Nat)):=by
 unfold gi
 rw [show ((xs.length:Int) - 1 - (k:Nat)).toNat = xs.length - 1 - k by omega,show ((k:Int)).toNat = k by simp]
 simp [List.getD,List.getElem?_reverse h]
theorem sweep_walk {w0:World} {F:Ch} (gF gc gw:Nat) (c:Cach) (L:List (Int × Value)) {z:Cach × List (Int × Value)} (H:sweepF c L = some z) {m hs W Hh tv lv mv kk:Value} (w:World) (s:Sat w0 [blk gF [.pointer (some ⟨gc,0,none⟩),m,hs,W,Hh,tv,lv,mv,.map (some gw),kk] 147,Cach_ch gc c,mapL gw L,F] w) :
  Calls Tryz.prog 357 #[.pointer (some ⟨gF,0,none⟩)] w fun e w'=>∃ gw':Nat,e = .returned (.tuple #[])∧Sat w0 ([blk gF [.pointer (some ⟨gc,0,none⟩),m,hs,W,Hh,tv,lv,mv,.map (some gw'),kk] 147,Cach_ch gc z.1,mapL gw' z.2] ++ [F]) w':=by
 unfold sweepF at H
 obtain ⟨hkl,H⟩:=gdE H
 have hK:cache_Cache_Keys c = some c.keys:=by unfold cache_Cache_Keys slices_Clone_Int; rw [if_pos (by omega)]; rfl
 refine TR.enter (args:=[_]) (S:=Sat w0 [blk gF [.pointer (some ⟨gc,0,none⟩),m,hs,W,Hh,tv,lv,mv,.map (some gw),kk] 147,Cach_ch gc c,mapL gw L,F]) Tryz.func357 rfl rfl s ?_
 refine TR.seq fun _ k1=>?_
 refine TR.region ?_
 refine RR.solid (Sd.box (cs:=[_]) rfl rfl) rfl rfl fun b1=>?_
 refine RR.nil (k1 _ _ _ ?_)
 refine TR.seq fun _ k2=>?_
 refine TR.region ?_
 refine RR.q (Qt.ldB 4 ty100.h rfl rfl rfl) rfl rfl ?_
 refine RR.p (Pu.nilCheck rfl) rfl rfl ?_
 refine RR.p (Pu.fieldAddr fd147_0.h rfl) rfl rfl ?_
 refine RR.q (Qt.ldB 0 ty136.h rfl rfl rfl) rfl rfl ?_
 refine RR.solid (Sd.callF 1 ent362 rfl rfl (fun w s=>cache_Cache_Keys_walk gc c hK w s)) rfl rfl fun q=>?_
 refine RR.p (Pu.assign rfl) rfl rfl ?_
 refine RR.nil (k2 _ _ _ ?_)
 refine TR.conseq (fr':=[(1,_),(2,_)]) ?_ sb (fun _ s=>s)
 refine TR.seq fun _ k3=>?_
 refine TR.seq fun _ k4=>?_
 refine TR.region ?_
 refine RR.q (Qt.ldB 4 ty100.h rfl rfl rfl) rfl rfl ?_
 refine RR.p (Pu.nilCheck rfl) rfl rfl ?_
 refine RR.p (Pu.fieldAddr fd147_6.h rfl) rfl rfl ?_
 refine RR.q (Qt.ldB 0 ty145.h rfl rfl rfl) rfl rfl ?_
 refine RR.q (Qt.lenL 2 mpz145 rfl rfl) rfl rfl ?_
 refine RR.p (Pu.move rfl) rfl rfl ?_
 refine RR.p (Pu.lenSl sl35.h rfl) rfl rfl ?_
 refine RR.p (Pu.mulS rfl rfl (by omega)) rfl rfl ?_
 refine RR.p (Pu.bin rfl rfl rfl) rfl rfl ?_
 refine RR.nil (k4 _ _ _ ?_)
 refine TR.cond rfl (fun hc=>?_) (fun hc=>?_)
 ·rw [if_pos (of_decide_eq_true hc)] at H
  obtain rfl:=sj H
  refine TR.ret ?_
  exact CR.retN rfl fun w s=>⟨gw,rfl,s.pc [0,1,2,3]⟩
 rw [if_neg (of_decide_eq_false hc)] at H
 refine TR.skip (k3 _ _ _ ?_)
 refine TR.conseq (fr':=[(1,_),(2,_)]) ?_ sb (fun _ s=>s)
 refine TR.seq fun _ k5=>?_
 refine TR.region ?_
 refine RR.solid Sd.makeMapL rfl rfl fun gk=>?_
 refine RR.solid (Sd.alloc zr145 rfl) rfl rfl fun b3=>?_
 refine RR.solid (Sd.stB (cs':=[_]) 7 ty145.h rfl rfl rfl rfl rfl rfl rfl rfl) rfl rfl fun _=>?_
 refine RR.nil (k5 _ _ _ ?_)
 refine TR.seq fun _ k6=>?_
 refine TR.seq fun _ k7=>?_
 refine TR.region ?_
 refine RR.p (Pu.move rfl) rfl rfl ?_
 refine RR.solid (Sd.callN ent363 rfl (fun w s=>back_make q c.keys.length w)) rfl rfl fun bs=>?_
 refine RR.nil (k7 _ _ _ ?_)
 refine TR.conseq (fr':=[(1,.pointer (some ⟨b1,0,none⟩)),(3,.pointer (some ⟨b3,0,none⟩)),(24,.func (.func 369) #[] #[.pointer (some ⟨bs,0,none⟩)])]) ?_ sb (fun _ s=>s)
 obtain ⟨st,e0,est,en⟩:=sweep_states H
 have hst:∀ k,k < c.keys.length→stepF L (gi c.keys ((c.keys.length:Int) - 1 - (k:Nat))) (st k) = some (st (k + 1)):=fun k hk=>by
  rw [← gi_rev hk]; exact est k (by simpa using hk)
 rw [List.length_reverse] at en
 refine TR.block ?_
 refine TR.range2 (gf:=369) (lb:=#[.pointer (some ⟨bs,0,none⟩)]) rfl (enters_ent ent369) rfl rfl (fun k=>.int .i64 ((c.keys.length:Int) - 1 - (k:Nat))) (fun k=>.int .i64 (gi c.keys ((c.keys.length:Int) - 1 - (k:Nat)))) c.keys.length
  (fun k=>[blk gF [.pointer (some ⟨gc,0,none⟩),m,hs,W,Hh,tv,lv,mv,.map (some gw),kk] 147,Cach_ch gc (st k).1,mapL gw L,F,blk b1 [.pointer (some ⟨gF,0,none⟩)] 100,row nilH 3 (rowV q c.keys.length) c.keys,mapL gk (st k).2,blk b3 [.map (some gk)] 145,blk bs [rowV q c.keys.length] 35]) ?_
  (fun k=>[(5,.int .i64 (gi c.keys ((c.keys.length:Int) - 1 - (k:Nat)))),(1,.pointer (some ⟨b1,0,none⟩)),(3,.pointer (some ⟨b3,0,none⟩))]) ?_ ?_ ?_ ?_
 ·rw [e0]; rfl
 ·intro l E w s hR
  exact back_walk bs q c.keys (by omega) (fun k=>[blk gF [.pointer (some ⟨gc,0,none⟩),m,hs,W,Hh,tv,lv,mv,.map (some gw),kk] 147,Cach_ch gc (st k).1,mapL gw L,F,blk b1 [.pointer (some ⟨gF,0,none⟩)] 100,row nilH 3 (rowV q c.keys.length) c.keys,mapL gk (st k).2,blk b3 [.map (some gk)] 145,blk bs [rowV q c.keys.length] 35]) 8 5 (fun _=>rfl) (fun _=>rfl) l E w s hR
 ·intro l k E K hk hK0
  refine TR.region ?_
  refine RR.p (Pu.assign rfl) rfl rfl ?_
  exact RR.nil (hK0.conseq sb (fun _ s=>s))
 ·intro l k E K hk hK0
  have hs1:=hst k hk
  unfold stepF at hs1
  obtain ⟨y,hy,hs1⟩:=bindE hs1
  refine TR.block ?_
  refine TR.seq fun _ k8=>?_
  refine TR.region ?_
  refine RR.q (Qt.ldB 4 ty100.h rfl rfl rfl) rfl rfl ?_
  refine RR.p (Pu.nilCheck rfl) rfl rfl ?_
  refine RR.p (Pu.fieldAddr fd147_0.h rfl) rfl rfl ?_
  refine RR.q (Qt.ldB 0 ty136.h rfl rfl rfl) rfl rfl ?_
  refine RR.p (Pu.move rfl) rfl rfl ?_
  refine RR.solid (Sd.callF0 1 ent355 rfl rfl (fun w s=>cache_Cache_Get_walk gc (st k).1 _ hy w s)) rfl rfl fun _=>?_
  refine RR.p (Pu.move rfl) rfl rfl ?_
  refine RR.p (Pu.extract rfl rfl) rfl rfl ?_
  refine RR.p (Pu.extract rfl rfl) rfl rfl ?_
  refine RR.p (Pu.assign rfl) rfl rfl ?_
  refine RR.p (Pu.assign rfl) rfl rfl ?_
  refine RR.nil (k8 _ _ _ ?_)
  refine TR.conseq (fr':=[(1,_),(3,_),(6,_),(7,_)]) ?_ sb (fun _ s=>s)
  refine TR.seq fun _ k9=>?_
  refine TR.region ?_
  refine RR.p (Pu.move rfl) rfl rfl ?_
  refine RR.nil (k9 _ _ _ ?_)
  refine TR.cond rfl (fun hc=>?_) (fun hc=>?_)
  ·rw [if_pos hc] at hs1
   obtain ⟨v,hv,hs1⟩:=bindE hs1
   have e:=Option.some.inj hs1
   refine TR.drawn (fun _=>True) [(0,.rd),(1,.pu),(2,.rd),(3,.pu),(4,.pu),(5,.rd),(6,.pu),(7,.rd),(8,.br)] mixed (ClE.sat _ _) (by kernel_rfl) ?_
   refine au 7 ?_
   refine dq rfl (Qt.lookP (v:=v) 2 (by rw [hv]; rfl) mpz145 rfl rfl rfl) (RD.solid rfl (.inr rfl) rfl rfl (Sd.mapPut 6 mpz145 rfl rfl rfl rfl) (fun _=>ClE.sat _ _) (fun _ _ _=>trivial) (fun h=>nomatch h) fun _=>?_)
   refine RD.nil (CR.lift ?_)
   refine CR.conseq (fr':=[]) (hK0 []) trivial (fun w s=>?_)
   rw [← e]
   exact s
  ·rw [if_neg (by rw [hc]; simp)] at hs1
   have e:=Option.some.inj hs1
   refine TR.skip ?_
   refine CR.conseq (fr':=[]) (hK0 []) trivial (fun w s=>?_)
   rw [← e]
   exact s
 ·intro D
  refine k6 _ _ _ ?_
  refine TR.region ?_
  refine RR.q (Qt.ldB 4 ty100.h rfl rfl rfl) rfl rfl ?_
  refine RR.q (Qt.ldB 7 ty145.h rfl rfl rfl) rfl rfl ?_
  refine RR.p (Pu.nilCheck rfl) rfl rfl ?_
  refine RR.p (Pu.fieldAddr fd147_6.h rfl) rfl rfl ?_
  refine RR.solid (Sd.stB (cs':=[_,_,_,_,_,_,_,_,_,_]) 0 ty145.h rfl rfl rfl rfl rfl rfl rfl rfl) rfl rfl fun _=>?_
  refine RR.nil (CR.end0 9 rfl rfl fun w s=>⟨gk,rfl,?_⟩)
  rw [← en]
  exact s.pc [0,1,6,3]
end Go.Proofs.YtmngdgclldkcfaaGreat
