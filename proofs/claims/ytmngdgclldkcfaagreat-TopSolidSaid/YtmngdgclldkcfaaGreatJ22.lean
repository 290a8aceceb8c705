/-
  Texts of one's own, joined: LW YE YF.
-/
import Derived.Test.YtmngdgclldkcfaaGreatRows
import Derived.Test.YtmngdgclldkcfaaGreatJ6
import Derived.Test.YtmngdgclldkcfaaGreatJ7
import Derived.Test.YtmngdgclldkcfaaGreatJ21
import Derived.Test.YtmngdgclldkcfaaGreatJ20
import Derived.Test.YtmngdgclldkcfaaGreatJ13
set_option linter.unusedVariables false
set_option linter.unusedSimpArgs false
set_option maxRecDepth 20000
set_option maxHeartbeats 4000000
namespace Go.Proofs.YtmngdgclldkcfaaGreat
open Go.Vg
open Enc (R)
theorem ent356:Ent Tryz.prog 356:=en Tryz.func356
theorem ent357:Ent Tryz.prog 357:=en Tryz.func357
theorem ent360:Ent Tryz.prog 360:=en Tryz.func360
theorem ent40:Ent Tryz.prog 40:=en Tryz.func40
instance fd147_1:FdC Tryz.prog 147 1 1:={}
instance fd147_7:FdC Tryz.prog 147 7 9:={}
instance fd425_0:FdC Tryz.prog 425 0 0:={}
instance fd425_1:FdC Tryz.prog 425 1 3:={}
theorem st425:stTy Tryz.prog 425 = some ([.int .u32 0,.int .i32 0,.int .u32 0,.slice none 0 0],[(0,3),(3,1)]):=by kernel_rfl
instance ty423:TyC Tryz.prog 423 (1,false):={}
theorem zr165:zeroOf Tryz.prog 165 = some (.pointer none):=by kernel_rfl
theorem zr423:zeroOf Tryz.prog 423 = some (.pointer none):=by kernel_rfl
theorem rdStars {w0:World} {α:Type} [Enc α] {L:List Ch} (jj:Nat) {D:Ch} (hj:L[jj]? = some D) {x:α} {cs:List Value} (h:Rd (Sat w0 [D]) x cs):Rd (Sat w0 [stars L]) x cs:=fun w s=>h w (Sat.pick (Sat.unstars L (G:=[]) s) [jj] (by simp) (by simp [hj]))
theorem fields_Net_walk {w0:World} {F:Ch} (g0:Nat) (x:Fld) (g:Grd) (l:List Bld) (cls size:Int) {v0 v1:Value} (h0:Rd (Sat w0 [F]) g.tiles [v0]) (h1:Rd (Sat w0 [F]) l [v1]) {r:Net × Fld} (H:fields_Net x g l cls size = some r) (w:World) (s:Sat w0 [Fld_ch g0 x,F] w):Calls Tryz.prog 40 #[.pointer (some ⟨g0,0,none⟩),.agg #[.int .i64 g.w,.int .i64 g.h,v0],v1,.int .i64 cls,.int .i64 size] w fun e w'=>∃ z:{z:FldIn r.2 × Nat // NetB z.1.hA z.2 r.1},e = .returned (.pointer (some ⟨z.1.2,0,none⟩))∧Sat w0 ([blk g0 [.pointer (some ⟨z.1.1.gc,0,none⟩),.int .i64 r.2.made,.bool r.2.has,.int .i64 r.2.g.w,.int .i64 r.2.g.h,z.1.1.tv,z.1.1.lv,.map (some z.1.1.gn),.map (some z.1.1.gw),.int .i64 r.2.count] 147,Cach_ch z.1.1.gc r.2.c,mapL z.1.1.gn (raw z.1.1.N),mapL z.1.1.gw (raw z.1.1.W),fz z.1.1.hA] ++ [F]) w':=by
 unfold fields_Net at H
 obtain ⟨x1,H1,H⟩:=bindE H
 obtain ⟨g1,H⟩:=gdE H
 obtain ⟨g2,H⟩:=gdE H
 cases hk:kget x1.nets (4 * cls + size) with
 | some n =>
  rw [hk] at H
  obtain rfl:=sj H
  exact net_done_walk g0 x g l cls size h0 h1 H1 g1 g2 hk w s
 | none =>
  rw [hk] at H
  obtain ⟨n,H2,H⟩:=bindE H
  obtain rfl:=sj H
  exact net_new_walk g0 x g l cls size h0 h1 H1 g1 g2 hk H2 w s
theorem fields_Net_g {x:Fld} {g:Grd} {l:List Bld} {cls size:Int} {r:Net × Fld} (H:fields_Net x g l cls size = some r):I64 (4 * cls)∧I64 (4 * cls + size):=by
 unfold fields_Net at H
 obtain ⟨x1,H1,H⟩:=bindE H
 obtain ⟨g1,H⟩:=gdE H
 obtain ⟨g2,H⟩:=gdE H
 exact ⟨g1,g2⟩
theorem sweep_both {W:List (Int × (Nat × List Int))} {c:Cach} {L:List (Int × List Int)} {z:Cach × List (Int × List Int)} (h:sweepF c L = some z) (e:L = abs W):∃ u:Cach × List (Int × (Nat × List Int)),sweepF c (raw W) = some (u.1,raw u.2)∧z = (u.1,abs u.2)∧∀ e ∈ u.2,e ∈ W:=by
 subst e
 unfold abs at h
 rw [sweepF_map] at h
 obtain ⟨u,h1,h2⟩:=Option.map_eq_some_iff.1 h
 exact ⟨u,by unfold raw; rw [sweepF_map,h1]; rfl,h2.symm,sweepF_mem h1⟩
theorem way1_walk {w0:World} {F:Ch} (bx gF b6 b13 b11 b17 nb:Nat) (hA:Hp) (n:Net) (made goal:Int) {d:List Int} (H:field_Net_Toward n goal = some d) (g1:I64 (made + 1)) (hn:NetB hA nb n) {sv c0 hs W Hh tv lv mv nv k:Value} (w:World) (s:Sat w0 [blk bx [.int .u32 0,.int .i32 1,sv,.slice none 0 0] 425,blk gF [c0,.int .i64 made,hs,W,Hh,tv,lv,mv,nv,k] 147,blk b6 [.pointer (some ⟨gF,0,none⟩)] 100,blk b13 [.pointer (some ⟨nb,0,none⟩)] 165,blk b11 [.int .i64 goal] 3,blk b17 [.pointer (some ⟨bx,0,none⟩)] 423,fz hA,F] w):Calls Tryz.prog 358 #[.pointer (some ⟨b6,0,none⟩),.pointer (some ⟨b13,0,none⟩),.pointer (some ⟨b11,0,none⟩),.pointer (some ⟨b17,0,none⟩)] w fun e w'=>e = .returned (.tuple #[])∧∃ p:Option Nat × Nat,Sat w0 [blk bx [.int .u32 0,.int .i32 1,sv,rowV p d.length] 425,blk gF [c0,.int .i64 (made + 1),hs,W,Hh,tv,lv,mv,nv,k] 147,blk b6 [.pointer (some ⟨gF,0,none⟩)] 100,blk b13 [.pointer (some ⟨nb,0,none⟩)] 165,blk b11 [.int .i64 goal] 3,blk b17 [.pointer (some ⟨bx,0,none⟩)] 423,fz hA,row nilH 3 (rowV p d.length) d,F] w':=by
 refine te Tryz.func358 s ?_
 obtain ⟨v0,v1,a,b,c⟩:=hn
 refine T.seq fun _ k1=>T.region (au 3 ?_)
 refine RS.solid (Sd.callF0 1 ent359 rfl rfl (fun w s=>atomicAdd_walk (cs':=[_,_,_,_,_,_,_,_,_,_]) s rfl g1 rfl)) rfl rfl fun _=>RS.nil (k1 _ _ (kq [1,2,3] ?_))
 refine dr mixed [1,1,1,3,0,0,4] ?_
 refine au 3 ?_
 refine RD.solid rfl (.inl rfl) rfl rfl (Sd.callN ent360 rfl (fun w s=>field_Net_Toward_walk n goal w (Held.fz 6 rfl w s _ _ a) (Rd.ofFz 6 rfl b w s) (Rd.ofFz 6 rfl c w s) H)) (fun _=>ClE.sat _ _) (fun _ _ _=>trivial) (fun _ _ _ s=>s.drop1) fun p=>?_
 refine au 3 ?_
 refine RD.nil (Cont.end0 rfl fun w' s=>?_)
 exact ⟨rfl,p,s.pc [0,1,2,3,4,5,6,8,7]⟩
theorem way_do {w0:World} {F:Ch} (bx gF b6 b13 b11 b17 nb:Nat) (hA:Hp) (n:Net) (made goal:Int) {d:List Int} (H:field_Net_Toward n goal = some d) (g1:I64 (made + 1)) (hn:NetB hA nb n) {sv c0 hs W Hh tv lv mv nv k:Value} (w:World) (s:Sat w0 [blk bx [.int .u32 0,.int .i32 0,sv,.slice none 0 0] 425,blk gF [c0,.int .i64 made,hs,W,Hh,tv,lv,mv,nv,k] 147,blk b6 [.pointer (some ⟨gF,0,none⟩)] 100,blk b13 [.pointer (some ⟨nb,0,none⟩)] 165,blk b11 [.int .i64 goal] 3,blk b17 [.pointer (some ⟨bx,0,none⟩)] 423,fz hA,F] w) :
  Calls Tryz.prog 79 #[.pointer (some ⟨bx,0,none⟩),.func (.func 358) #[] #[.pointer (some ⟨b6,0,none⟩),.pointer (some ⟨b13,0,none⟩),.pointer (some ⟨b11,0,none⟩),.pointer (some ⟨b17,0,none⟩)]] w fun e w'=>∃ p:Option Nat × Nat,e = .returned (.tuple #[])∧Sat w0 ([blk bx [.int .u32 1,.int .i32 0,sv,rowV p d.length] 425,blk gF [c0,.int .i64 (made + 1),hs,W,Hh,tv,lv,mv,nv,k] 147,blk b6 [.pointer (some ⟨gF,0,none⟩)] 100,blk b13 [.pointer (some ⟨nb,0,none⟩)] 165,blk b11 [.int .i64 goal] 3,blk b17 [.pointer (some ⟨bx,0,none⟩)] 423,fz hA,row nilH 3 (rowV p d.length) d] ++ [F]) w':=by
 refine (once_358 ⟨b6,0,none⟩ ⟨b13,0,none⟩ ⟨b11,0,none⟩ ⟨b17,0,none⟩ s (k:=0) rfl (fun p:Option Nat × Nat=>[blk bx [.int .u32 0,.int .i32 1,sv,rowV p d.length] 425,blk gF [c0,.int .i64 (made + 1),hs,W,Hh,tv,lv,mv,nv,k] 147,blk b6 [.pointer (some ⟨gF,0,none⟩)] 100,blk b13 [.pointer (some ⟨nb,0,none⟩)] 165,blk b11 [.int .i64 goal] 3,blk b17 [.pointer (some ⟨bx,0,none⟩)] 423,fz hA,row nilH 3 (rowV p d.length) d,F]) (fun p=>[sv,rowV p d.length]) (fun _=>rfl) (fun w1 s1=>way1_walk bx gF b6 b13 b11 b17 nb hA n made goal H g1 hn w1 s1)).mono ?_
 rintro e w' ⟨he,p,s'⟩
 exact ⟨p,he,s'⟩
theorem ways_there {w0:World} {F:Ch} (g0:Nat) (x:Fld) (g:Grd) (l:List Bld) (cls size goal:Int) {v0 v1:Value} (h0:Rd (Sat w0 [F]) g.tiles [v0]) (h1:Rd (Sat w0 [F]) l [v1]) {n:Net} {x2:Fld} (H1:fields_Net x g l cls size = some (n,x2)) (g3:I64 ((4 * cls + size) * 128)) (g4:I64 ((4 * cls + size) * 128 * 128)) (g5:I64 ((4 * cls + size) * 128 * 128 + goal)) {kz:Int} {c2:Cach} (H2:cache_Cache_Get x2.c ((4 * cls + size) * 128 * 128 + goal) = some (kz,true,c2)) {d:List Int} (H3:kget x2.ways kz = some d) (w:World) (s:Sat w0 [Fld_ch g0 x,F] w):Calls Tryz.prog 354 #[.pointer (some ⟨g0,0,none⟩),.agg #[.int .i64 g.w,.int .i64 g.h,v0],v1,.int .i64 cls,.int .i64 size,.int .i64 goal] w fun e w'=>∃ z:{z:FldIn (⟨c2,x2.made,x2.has,x2.g,x2.l,x2.nets,x2.ways,x2.count⟩:Fld) × Value // R z.1.hA d [z.2]},e = .returned z.1.2∧Sat w0 ([blk g0 [.pointer (some ⟨z.1.1.gc,0,none⟩),.int .i64 (⟨c2,x2.made,x2.has,x2.g,x2.l,x2.nets,x2.ways,x2.count⟩:Fld).made,.bool (⟨c2,x2.made,x2.has,x2.g,x2.l,x2.nets,x2.ways,x2.count⟩:Fld).has,.int .i64 (⟨c2,x2.made,x2.has,x2.g,x2.l,x2.nets,x2.ways,x2.count⟩:Fld).g.w,.int .i64 (⟨c2,x2.made,x2.has,x2.g,x2.l,x2.nets,x2.ways,x2.count⟩:Fld).g.h,z.1.1.tv,z.1.1.lv,.map (some z.1.1.gn),.map (some z.1.1.gw),.int .i64 (⟨c2,x2.made,x2.has,x2.g,x2.l,x2.nets,x2.ways,x2.count⟩:Fld).count] 147,Cach_ch z.1.1.gc (⟨c2,x2.made,x2.has,x2.g,x2.l,x2.nets,x2.ways,x2.count⟩:Fld).c,mapL z.1.1.gn (raw z.1.1.N),mapL z.1.1.gw (raw z.1.1.W),fz z.1.1.hA] ++ [F]) w':=by
 refine te Tryz.func354 s ?_
 obtain ⟨g1,g2⟩:=fields_Net_g H1
 refine T.seq fun _ k1=>T.region (RS.solid (Sd.box (cs:=[_]) rfl rfl) rfl rfl fun b6=>RS.solid (Sd.box (cs:=[_,_,_]) rfl rfl) rfl rfl fun b7=>RS.solid (Sd.box (cs:=[_]) rfl rfl) rfl rfl fun b11=>rA rfl (RS.nil (k1 _ _ (kq [2,3,4,6,7,11] ?_))))
 refine T.seq fun _ k2=>T.region (au 5 ?_)
 refine RS.solid (Sd.call ent40 rfl (fun w s=>callFr (A:=[Fld_ch g0 x]) (B:=[F,_,_,_]) (fun w s=>fields_Net_walk g0 x g l cls size (rdStars 0 rfl h0) (rdStars 0 rfl h1) H1 w s) s)) rfl rfl fun z=>?_
 obtain ⟨⟨q,nb⟩,hnb⟩:=z
 refine RS.weakS (fun w s=>Sat.pick (G':=[blk g0 [.pointer (some ⟨q.gc,0,none⟩),.int .i64 x2.made,.bool x2.has,.int .i64 x2.g.w,.int .i64 x2.g.h,q.tv,q.lv,.map (some q.gn),.map (some q.gw),.int .i64 x2.count] 147,Cach_ch q.gc x2.c,mapL q.gn (raw q.N),mapL q.gw (raw q.W),fz q.hA,F,blk b6 [.pointer (some ⟨g0,0,none⟩)] 100,blk b7 [.int .i64 g.w,.int .i64 g.h,v0] 24,blk b11 [.int .i64 goal] 3]) s [0,1,2,3,4,5,6,7,8] (by decide) rfl) ?_
 refine RS.solid (Sd.alloc zr165 rfl) rfl rfl fun b13=>RS.solid (Sd.stB (cs':=[_]) 9 ty165.h rfl rfl rfl rfl rfl rfl rfl rfl) rfl rfl fun _=>RS.nil (k2 _ _ (kq [3,4,6,11,13] ?_))
 refine T.seq fun _ k3=>T.region (rM rfl (rp (Pu.mulS rfl rfl g1) (rM rfl (rp (Pu.addS rfl rfl g2) (rp (Pu.mulS rfl rfl g3) (rp (Pu.mulS rfl rfl g4) (rq (Qt.ldB 8 ty3.h rfl rfl rfl) (rp (Pu.addS rfl rfl g5) (rA rfl (RS.nil (k3 _ _ (kq [6,11,13,14] ?_))))))))))))
 refine T.seq fun _ k4=>T.region (au 5 ?_)
 refine RS.solid (Sd.callF0 1 ent355 rfl rfl (fun w s=>cache_Cache_Get_walk q.gc x2.c _ H2 w s)) rfl rfl fun _=>au 5 ?_
 refine RS.nil (k4 _ _ (kq [6,11,13,14,15,16] ?_))
 refine T.seq fun _ k5=>au 3 ?_
 refine T.cond rfl (fun hc42=>?_) (fun hc42=>?_)
 ·cases hc42 -- end
 refine T.skip (k5 _ _ (kq [6,11,13,15] ?_))
 refine T.seq fun _ k7=>?_
 obtain ⟨z,hz,hzd⟩:=abs_get (q.hW ▸ H3)
 obtain ⟨sv,v,a1,a2⟩:=q.aW _ (kget_mem hz)
 refine T.region (au 5 ?_)
 refine rq (Qt.lookP 3 (raw_get hz _) mpz145 rfl rfl rfl) (RS.solid (Sd.alloc zr423 rfl) rfl rfl fun b17=>RS.solid (Sd.stB (cs':=[_]) 10 ty423.h rfl rfl rfl rfl rfl rfl rfl rfl) rfl rfl fun _=>RS.nil (k7 _ _ (kq [6,11,13,17] ?_)))
 refine T.seq fun _ k8=>T.region (au 3 ?_)
 refine rp (Pu.makeFunc (cs:=[_,_,_,_]) rfl) (rq (Qt.call ent79 rfl fun w s=>(do_done ⟨z.1,0,none⟩ _ w (cellOf (Held.fz 4 rfl w s _ _ a1) rfl)).mono fun e w' ⟨he,hw⟩=>⟨he,hw ▸ Ext.refl w⟩) (RS.nil (k8 _ _ (kq [17] ?_))))
 refine T.seq fun _ k9=>T.region (au 3 ?_)
 refine rq (Qt.ldH 4 rfl ty35.h rfl a1 rfl) (rA rfl (RS.nil (k9 _ _ (kq [12] ?_))))
 refine T.retTo (by with_reducible ((repeat (first | apply RetTo.seq | apply RetTo.blk)); exact RetTo.refl _)) (Cont.ret1 rfl rfl fun w' s=>?_)
 subst hzd
 exact ⟨⟨(⟨q.gc,q.gn,q.gw,q.tv,q.lv,q.hA,q.N,q.W,q.hN,q.hW,q.aN,q.aW,q.rt,q.rl⟩,v),a2⟩,rfl,s.pc [0,1,2,3,4,5]⟩
theorem ways_new {w0:World} {F:Ch} (g0:Nat) (x:Fld) (g:Grd) (l:List Bld) (cls size goal:Int) {v0 v1:Value} (h0:Rd (Sat w0 [F]) g.tiles [v0]) (h1:Rd (Sat w0 [F]) l [v1]) {n:Net} {x2:Fld} (H1:fields_Net x g l cls size = some (n,x2)) (g3:I64 ((4 * cls + size) * 128)) (g4:I64 ((4 * cls + size) * 128 * 128)) (g5:I64 ((4 * cls + size) * 128 * 128 + goal)) {kz:Int} {c2:Cach} (H2:cache_Cache_Get x2.c ((4 * cls + size) * 128 * 128 + goal) = some (kz,false,c2)) (g6:I64 (x2.count + 1)) (g7:I64 (x2.made + 1)) {c3:Cach} (H3:cache_Cache_Put c2 ((4 * cls + size) * 128 * 128 + goal) (x2.count + 1) = some c3) {d:List Int} (H4:field_Net_Toward n goal = some d) (H5:kget x2.ways (x2.count + 1) = none) {c4:Cach} {W4:List (Int × List Int)} (H6:sweepF c3 (kput x2.ways (x2.count + 1) d) = some (c4,W4)) (H7:(kget W4 (x2.count + 1)).isSome = true) (w:World) (s:Sat w0 [Fld_ch g0 x,F] w):Calls Tryz.prog 354 #[.pointer (some ⟨g0,0,none⟩),.agg #[.int .i64 g.w,.int .i64 g.h,v0],v1,.int .i64 cls,.int .i64 size,.int .i64 goal] w fun e w'=>∃ z:{z:FldIn (⟨c4,x2.made + 1,x2.has,x2.g,x2.l,x2.nets,W4,x2.count + 1⟩:Fld) × Value // R z.1.hA d [z.2]},e = .returned z.1.2∧Sat w0 ([blk g0 [.pointer (some ⟨z.1.1.gc,0,none⟩),.int .i64 (⟨c4,x2.made + 1,x2.has,x2.g,x2.l,x2.nets,W4,x2.count + 1⟩:Fld).made,.bool (⟨c4,x2.made + 1,x2.has,x2.g,x2.l,x2.nets,W4,x2.count + 1⟩:Fld).has,.int .i64 (⟨c4,x2.made + 1,x2.has,x2.g,x2.l,x2.nets,W4,x2.count + 1⟩:Fld).g.w,.int .i64 (⟨c4,x2.made + 1,x2.has,x2.g,x2.l,x2.nets,W4,x2.count + 1⟩:Fld).g.h,z.1.1.tv,z.1.1.lv,.map (some z.1.1.gn),.map (some z.1.1.gw),.int .i64 (⟨c4,x2.made + 1,x2.has,x2.g,x2.l,x2.nets,W4,x2.count + 1⟩:Fld).count] 147,Cach_ch z.1.1.gc (⟨c4,x2.made + 1,x2.has,x2.g,x2.l,x2.nets,W4,x2.count + 1⟩:Fld).c,mapL z.1.1.gn (raw z.1.1.N),mapL z.1.1.gw (raw z.1.1.W),fz z.1.1.hA] ++ [F]) w':=by
 refine te Tryz.func354 s ?_
 obtain ⟨g1,g2⟩:=fields_Net_g H1
 refine T.seq fun K1 hK1=>T.region (RS.solid (Sd.box (cs:=[_]) rfl rfl) rfl rfl fun b6=>RS.solid (Sd.box (cs:=[_,_,_]) rfl rfl) rfl rfl fun b7=>RS.solid (Sd.box (cs:=[_]) rfl rfl) rfl rfl fun b11=>rA rfl (RS.nil (hK1 _ _ (kq [2,3,4,6,7,11] ?_))))
 refine T.seq fun K2 hK2=>T.region (au 5 ?_)
 refine RS.solid (Sd.call ent40 rfl (fun w s=>callFr (A:=[Fld_ch g0 x]) (B:=[F,_,_,_]) (fun w s=>fields_Net_walk g0 x g l cls size (rdStars 0 rfl h0) (rdStars 0 rfl h1) H1 w s) s)) rfl rfl fun z=>?_
 obtain ⟨⟨q,nb⟩,hnb⟩:=z
 refine RS.weakS (fun w s=>Sat.pick (G':=[blk g0 [.pointer (some ⟨q.gc,0,none⟩),.int .i64 x2.made,.bool x2.has,.int .i64 x2.g.w,.int .i64 x2.g.h,q.tv,q.lv,.map (some q.gn),.map (some q.gw),.int .i64 x2.count] 147,Cach_ch q.gc x2.c,mapL q.gn (raw q.N),mapL q.gw (raw q.W),fz q.hA,F,blk b6 [.pointer (some ⟨g0,0,none⟩)] 100,blk b7 [.int .i64 g.w,.int .i64 g.h,v0] 24,blk b11 [.int .i64 goal] 3]) s [0,1,2,3,4,5,6,7,8] (by decide) rfl) ?_
 refine RS.solid (Sd.alloc zr165 rfl) rfl rfl fun b13=>RS.solid (Sd.stB (cs':=[_]) 9 ty165.h rfl rfl rfl rfl rfl rfl rfl rfl) rfl rfl fun _=>RS.nil (hK2 _ _ (kq [3,4,6,11,13] ?_))
 refine T.seq fun _ k3=>T.region (rM rfl (rp (Pu.mulS rfl rfl g1) (rM rfl (rp (Pu.addS rfl rfl g2) (rp (Pu.mulS rfl rfl g3) (rp (Pu.mulS rfl rfl g4) (rq (Qt.ldB 8 ty3.h rfl rfl rfl) (rp (Pu.addS rfl rfl g5) (rA rfl (RS.nil (k3 _ _ (kq [6,11,13,14] ?_))))))))))))
 refine T.seq fun _ k4=>T.region (au 5 ?_)
 refine RS.solid (Sd.callF0 1 ent355 rfl rfl (fun w s=>cache_Cache_Get_walk q.gc x2.c _ H2 w s)) rfl rfl fun _=>au 5 ?_
 refine RS.nil (k4 _ _ (kq [6,11,13,14,15,16] ?_))
 refine T.seq fun _ k5=>au 3 ?_
 refine T.cond rfl (fun hc42=>?_) (fun hc42=>?_)
 ·refine kq [6,11,13,14] ?_
  refine T.seq fun _ k7=>T.region (au 4 ?_)
  refine rp (Pu.addS rfl rfl g6) (au 3 ?_)
  refine RS.nil (k7 _ _ (kq [6,11,13,14] ?_))
  refine T.seq fun _ k8=>T.region (au 5 ?_)
  refine RS.nil (k8 _ _ (kq [6,11,13,14,15] ?_))
  refine T.seq fun _ k9=>T.region (au 6 ?_)
  refine RS.solid (Sd.callF0 1 ent356 rfl rfl (fun w s=>cache_Cache_Put_walk q.gc c2 _ _ H3 w s)) rfl rfl fun _=>RS.nil (k9 _ _ (kq [6,11,13,15] ?_))
  refine T.seq fun _ k10=>T.region (au 5 ?_)
  refine rp (Pu.build (cells:=[_,_,_,_]) st425 rfl rfl) (RS.solid (Sd.box (cs:=[_,_,_,_]) rfl rfl) rfl rfl fun b67=>RS.solid (Sd.mapPut 3 mpz145 rfl rfl rfl rfl) rfl rfl fun _=>RS.nil (k10 _ _ (kq [6,11,13,15] ?_)))
  have hk2:kget q.W (x2.count + 1) = none:=abs_none (q.hW ▸ H5)
  obtain ⟨u,hu1,hu2,hu3⟩:=sweep_both (W:=kput q.W (x2.count + 1) (b67,d)) H6 (by rw [q.hW]; exact abs_put (b67,d))
  have e4:c4 = u.1:=congrArg Prod.fst hu2
  have e5:W4 = abs u.2:=congrArg Prod.snd hu2
  have hmem:∀ e ∈ u.2,e = (x2.count + 1,(b67,d)) ∨ (e ∈ q.W∧e.1 ≠ x2.count + 1):=fun e he=>(mem_kput (hu3 e he)).imp id fun h=>⟨h.1,h.2 hk2⟩
  have hz:kget u.2 (x2.count + 1) = some (b67,d):=by
   rw [e5] at H7
   obtain ⟨y,hy⟩:=Option.isSome_iff_exists.1 H7
   obtain ⟨z,hz,_⟩:=abs_get hy
   rcases hmem _ (kget_mem hz) with h | h
   ·rw [hz]; exact congrArg some (Prod.mk.inj h).2
   exact absurd rfl h.2
  have e1:=raw_put (L:=q.W) (k:=x2.count + 1) (b67,d)
  refine T.weakS (S':=Sat w0 [blk g0 [.pointer (some ⟨q.gc,0,none⟩),.int .i64 x2.made,.bool x2.has,.int .i64 x2.g.w,.int .i64 x2.g.h,q.tv,q.lv,.map (some q.gn),.map (some q.gw),.int .i64 (x2.count + 1)] 147,Cach_ch q.gc c3,mapL q.gn (raw q.N),mapL q.gw (raw (kput q.W (x2.count + 1) (b67,d))),fz q.hA,F,blk b6 [.pointer (some ⟨g0,0,none⟩)] 100,blk b7 [.int .i64 g.w,.int .i64 g.h,v0] 24,blk b11 [.int .i64 goal] 3,blk b13 [.pointer (some ⟨nb,0,none⟩)] 165,blk b67 [.int .u32 0,.int .i32 0,.int .u32 0,.slice none 0 0] 425]) (fun w s=>by rw [← e1]; exact s) ?_
  refine T.region (rq (Qt.ldB 6 ty100.h rfl rfl rfl) (RS.solid (Sd.call ent357 rfl (fun w s=>callFr (A:=[_,_,_]) (B:=[_,_,_,_,_,_,_,_]) (fun w s=>sweep_walk g0 q.gc q.gw c3 _ hu1 w s) (s.pc [0,1,3,2,4,5,6,7,8,9,10]))) rfl rfl fun gw2=>RS.nil (k5 _ _ ?_)))
  refine T.seq fun _ k11=>T.region (au 5 ?_)
  refine rq (Qt.lookP 2 (raw_get hz _) mpz145 rfl rfl rfl) (RS.solid (Sd.alloc zr423 rfl) rfl rfl fun b17=>RS.solid (Sd.stB (cs':=[_]) 11 ty423.h rfl rfl rfl rfl rfl rfl rfl rfl) rfl rfl fun _=>RS.nil (k11 _ _ (kq [6,11,13,17] ?_)))
  refine T.seq fun _ k12=>T.region (au 3 ?_)
  refine rp (Pu.makeFunc (cs:=[_,_,_,_]) rfl) (RS.solid (Sd.call ent79 rfl (fun w s=>callFr (A:=[_,_,_,_,_,_,_]) (B:=[_,_,_,_,_]) (fun w s=>way_do b67 g0 b6 b13 b11 b17 nb q.hA n x2.made goal H4 g7 hnb w s) (s.pc [10,0,6,9,8,11,4,1,2,3,5,7]))) rfl rfl fun p=>RS.nil (k12 _ _ (kq [17] ?_)))
  refine T.seq fun _ k13=>T.region (au 5 ?_)
  refine RS.nil (k13 _ _ (kq [12] ?_))
  refine T.retTo (by with_reducible ((repeat (first | apply RetTo.seq | apply RetTo.blk)); exact RetTo.refl _)) (Cont.ret1 rfl rfl fun w' s=>?_)
  obtain ⟨hB,⟨l1,p1,hp1,k1⟩,s⟩:=s.absorb 6 7 rfl rfl (by decide)
  obtain ⟨hC,⟨l2,p2,hp2,k2⟩,s⟩:=s.absorb 6 0 rfl rfl (by decide)
  have hl:q.hA.le hC:=Hp.le_trans l1 l2
  have hd:R hC d [rowV p d.length]:=Enc.mono (Hp.le_trans k1 l2) (row_R hp1)
  subst e4 e5
  refine ⟨⟨(⟨q.gc,q.gn,gw2,q.tv,q.lv,hC,q.N,u.2,q.hN,rfl,fun e he=>(q.aN e he).mono hl,?_,Enc.mono hl q.rt,Enc.mono hl q.rl⟩,rowV p d.length),hd⟩,rfl,s.pc [1,8,10,9,6,11]⟩
  intro e he
  rcases hmem e he with rfl | ⟨he,_⟩
  ·exact ⟨_,_,k2 _ _ hp2,hd⟩
  exact (q.aW e he).mono hl
 cases hc42 -- end
end Go.Proofs.YtmngdgclldkcfaaGreat
set_option linter.unusedVariables false
set_option linter.unusedSimpArgs false
set_option maxRecDepth 20000
set_option maxHeartbeats 4000000
namespace Go.Proofs.YtmngdgclldkcfaaGreat
open Go.Vg
open Enc (R)
theorem ar161:arTy Tryz.prog 161 = some (3,41,1):=by kernel_rfl
instance fd164_0:FdC Tryz.prog 164 0 0:={}
instance fd164_1:FdC Tryz.prog 164 1 8:={}
structure Std where
 w:Wld
 op:O3
 cs:Cls
 deriving Inhabited
def Std_ch (g:Nat) (x:Std):Ch:=exch fun q:(Option Nat × Nat) × (Option Nat × Nat) × (Option Nat × Nat) × Value × Value × Value × Nat=>stars ((blk g [.int .i64 x.w.tick,.int .i64 x.w.players,.int .i64 x.w.nextid,.int .i64 x.w.g.w,.int .i64 x.w.g.h,rowV q.1 x.w.g.tiles.length,rowV q.2.1 x.w.bs.length,rowV q.2.2.1 x.w.us.length,q.2.2.2.1,q.2.2.2.2.1,q.2.2.2.2.2.1,.pointer (some ⟨q.2.2.2.2.2.2,0,none⟩)] 164) :: [row nilH 5 (rowV q.1 x.w.g.tiles.length) x.w.g.tiles,row nilH 135 (rowV q.2.1 x.w.bs.length) x.w.bs,row nilH 54 (rowV q.2.2.1 x.w.us.length) x.w.us,opn 4 q.2.2.2.1 q.2.2.2.2.1 q.2.2.2.2.2.1 x.op,Cells_ch q.2.2.2.2.2.2 x.cs])
theorem Std_open {w0 w:World} {G:List Ch} {g:Nat} {x:Std} (k:Nat) (hk:G[k]? = some (Std_ch g x)) (h:Sat w0 G w):∃ q:(Option Nat × Nat) × (Option Nat × Nat) × (Option Nat × Nat) × Value × Value × Value × Nat,Sat w0 (G.set k (blk g [.int .i64 x.w.tick,.int .i64 x.w.players,.int .i64 x.w.nextid,.int .i64 x.w.g.w,.int .i64 x.w.g.h,rowV q.1 x.w.g.tiles.length,rowV q.2.1 x.w.bs.length,rowV q.2.2.1 x.w.us.length,q.2.2.2.1,q.2.2.2.2.1,q.2.2.2.2.2.1,.pointer (some ⟨q.2.2.2.2.2.2,0,none⟩)] 164) ++ [row nilH 5 (rowV q.1 x.w.g.tiles.length) x.w.g.tiles,row nilH 135 (rowV q.2.1 x.w.bs.length) x.w.bs,row nilH 54 (rowV q.2.2.1 x.w.us.length) x.w.us,opn 4 q.2.2.2.1 q.2.2.2.2.1 q.2.2.2.2.2.1 x.op,Cells_ch q.2.2.2.2.2.2 x.cs]) w:=Sat.openAt (A:=fun q:(Option Nat × Nat) × (Option Nat × Nat) × (Option Nat × Nat) × Value × Value × Value × Nat=>(blk g [.int .i64 x.w.tick,.int .i64 x.w.players,.int .i64 x.w.nextid,.int .i64 x.w.g.w,.int .i64 x.w.g.h,rowV q.1 x.w.g.tiles.length,rowV q.2.1 x.w.bs.length,rowV q.2.2.1 x.w.us.length,q.2.2.2.1,q.2.2.2.2.1,q.2.2.2.2.2.1,.pointer (some ⟨q.2.2.2.2.2.2,0,none⟩)] 164)) (L:=fun q:(Option Nat × Nat) × (Option Nat × Nat) × (Option Nat × Nat) × Value × Value × Value × Nat=>[row nilH 5 (rowV q.1 x.w.g.tiles.length) x.w.g.tiles,row nilH 135 (rowV q.2.1 x.w.bs.length) x.w.bs,row nilH 54 (rowV q.2.2.1 x.w.us.length) x.w.us,opn 4 q.2.2.2.1 q.2.2.2.2.1 q.2.2.2.2.2.1 x.op,Cells_ch q.2.2.2.2.2.2 x.cs]) k hk h
theorem Std_shut {w0 w:World} {R:List Ch} {g:Nat} {x:Std} (q:(Option Nat × Nat) × (Option Nat × Nat) × (Option Nat × Nat) × Value × Value × Value × Nat) (h:Sat w0 (R ++ [blk g [.int .i64 x.w.tick,.int .i64 x.w.players,.int .i64 x.w.nextid,.int .i64 x.w.g.w,.int .i64 x.w.g.h,rowV q.1 x.w.g.tiles.length,rowV q.2.1 x.w.bs.length,rowV q.2.2.1 x.w.us.length,q.2.2.2.1,q.2.2.2.2.1,q.2.2.2.2.2.1,.pointer (some ⟨q.2.2.2.2.2.2,0,none⟩)] 164,row nilH 5 (rowV q.1 x.w.g.tiles.length) x.w.g.tiles,row nilH 135 (rowV q.2.1 x.w.bs.length) x.w.bs,row nilH 54 (rowV q.2.2.1 x.w.us.length) x.w.us,opn 4 q.2.2.2.1 q.2.2.2.2.1 q.2.2.2.2.2.1 x.op,Cells_ch q.2.2.2.2.2.2 x.cs]) w):Sat w0 (Std_ch g x :: R) w:=Sat.toEx (C:=fun q:(Option Nat × Nat) × (Option Nat × Nat) × (Option Nat × Nat) × Value × Value × Value × Nat=>stars ((blk g [.int .i64 x.w.tick,.int .i64 x.w.players,.int .i64 x.w.nextid,.int .i64 x.w.g.w,.int .i64 x.w.g.h,rowV q.1 x.w.g.tiles.length,rowV q.2.1 x.w.bs.length,rowV q.2.2.1 x.w.us.length,q.2.2.2.1,q.2.2.2.2.1,q.2.2.2.2.2.1,.pointer (some ⟨q.2.2.2.2.2.2,0,none⟩)] 164) :: [row nilH 5 (rowV q.1 x.w.g.tiles.length) x.w.g.tiles,row nilH 135 (rowV q.2.1 x.w.bs.length) x.w.bs,row nilH 54 (rowV q.2.2.1 x.w.us.length) x.w.us,opn 4 q.2.2.2.1 q.2.2.2.2.1 q.2.2.2.2.2.1 x.op,Cells_ch q.2.2.2.2.2.2 x.cs])) q (Sat.toStars ((blk g [.int .i64 x.w.tick,.int .i64 x.w.players,.int .i64 x.w.nextid,.int .i64 x.w.g.w,.int .i64 x.w.g.h,rowV q.1 x.w.g.tiles.length,rowV q.2.1 x.w.bs.length,rowV q.2.2.1 x.w.us.length,q.2.2.2.1,q.2.2.2.2.1,q.2.2.2.2.2.1,.pointer (some ⟨q.2.2.2.2.2.2,0,none⟩)] 164) :: [row nilH 5 (rowV q.1 x.w.g.tiles.length) x.w.g.tiles,row nilH 135 (rowV q.2.1 x.w.bs.length) x.w.bs,row nilH 54 (rowV q.2.2.1 x.w.us.length) x.w.us,opn 4 q.2.2.2.1 q.2.2.2.2.1 q.2.2.2.2.2.1 x.op,Cells_ch q.2.2.2.2.2.2 x.cs]) (G:=R) h)
def army_tiles (g:Grd) (bs:List Bld) (o:O3) (k:Int):Option (List Bool × O3) :=
  if 0 ≤ k∧k ≤ 2 then match o.get k with
  | some l=>some (l,o)
  | none=>Option.bind (clear_Tiles g bs k) fun l=>if 0 < l.length then some (l,o.put k l) else none
  else none
theorem army_tiles_get {g:Grd} {bs:List Bld} {o:O3} {k:Int} {r:List Bool × O3} (H:army_tiles g bs o k = some r):r.2.get k = some r.1:=by
 unfold army_tiles at H
 obtain ⟨hk,H⟩:=gdE H
 split at H
 ·rename_i l h; obtain rfl:=Option.some.inj H; exact h
 obtain ⟨l,_,H⟩:=bindE H
 obtain ⟨_,H⟩:=gdE H
 obtain rfl:=sj H
 unfold O3.get O3.put
 dsimp only
 split
 ·rfl
 split <;> rfl
theorem tiles_n0 {w0:World} {F:Ch} (g0 gc:Nat) (g:Grd) (bs:List Bld) (tick players nextid:Int) {vt vb vu:Value} (h0:Rd (Sat w0 [F]) g.tiles [vt]) (h1:Rd (Sat w0 [F]) bs [vb]) {v1 v2:Value} {o1 o2:Option (List Bool)} {l:List Bool} (H:clear_Tiles g bs 0 = some l) (hl:0 < l.length) (w:World) (s:Sat w0 [blk g0 [.int .i64 tick,.int .i64 players,.int .i64 nextid,.int .i64 g.w,.int .i64 g.h,vt,vb,vu,.slice none 0 0,v1,v2,.pointer (some ⟨gc,0,none⟩)] 164,orow 4 (.slice none 0 0) (none:Option (List Bool)),orow 4 (v1) o1,orow 4 (v2) o2,F] w):Calls Tryz.prog 120 #[.pointer (some ⟨g0,0,none⟩),.int .i64 0] w fun e w'=>∃ q:Option Nat × Nat,e = .returned (rowV q l.length)∧Sat w0 [blk g0 [.int .i64 tick,.int .i64 players,.int .i64 nextid,.int .i64 g.w,.int .i64 g.h,vt,vb,vu,rowV q l.length,v1,v2,.pointer (some ⟨gc,0,none⟩)] 164,orow 4 (rowV q l.length) (some l),orow 4 (v1) o1,orow 4 (v2) o2,F] w':=by
 refine te Tryz.func120 s ?_
 refine au 2 ?_
 refine T.seq fun _ k2=>T.seq fun _ k3=>T.region (au 4 ?_)
 refine rp (Pu.indexAr ar161 rfl rfl (by decide)) (rq (Qt.ldB 0 ty41.h rfl rfl rfl) (rp (Pu.eqNilSl usl41 rfl) (RS.nil (k3 _ _ ?_))))
 refine T.cond rfl (fun hc11=>?_) (fun hc11=>?_)
 ·refine kq [0,1] ?_
  refine T.drawn (fun _=>True) [(0,.pu),(1,.pu),(2,.pu),(3,.pu),(4,.pu),(5,.pu),(6,.rd),(7,.pu),(8,.pu),(9,.pu),(10,.pu),(11,.rd),(12,.pu),(14,.pu),(15,.pu),(13,.so),(16,.pu),(17,.br)] mixed (ClE.sat _ _) (by kernel_rfl) ?_
  refine au 15 ?_
  refine RD.solid rfl (.inl rfl) rfl rfl (Sd.callN ent177 rfl (fun w s=>clear_Tiles_walk g bs 0 w (Rd.ofFrame 4 rfl h0 w s) (Rd.ofFrame 4 rfl h1 w s) H)) (fun _=>ClE.sat _ _) (fun _ _ _=>trivial) (fun _ _ _ s=>s.drop1) fun q=>?_
  refine dp rfl (Pu.indexAr ar161 rfl rfl (by decide)) (RD.solid rfl (.inr rfl) rfl rfl (Sd.stB (cs':=[_,_,_,_,_,_,_,_,_,_,_,_]) 0 ty41.h rfl rfl rfl rfl rfl rfl rfl rfl) (fun _=>ClE.sat _ _) (fun _ _ _=>trivial) (fun h=>nomatch h) fun _=>?_)
  refine RD.nil (k2 _ _ (kq [0,1] ?_))
  refine T.seq fun _ k4=>T.region (au 4 ?_)
  refine rp (Pu.indexAr ar161 rfl rfl (by decide)) (au 2 ?_)
  refine RS.nil (k4 _ _ (kq [4] ?_))
  refine T.retTo (by with_reducible ((repeat (first | apply RetTo.seq | apply RetTo.blk)); exact RetTo.refl _)) (Cont.ret1 rfl rfl fun w' s=>?_)
  exact ⟨q,rfl,(Sat.rowOrow 5 s rfl hl).pick [0,5,2,3,4] (by decide) rfl⟩
 cases hc11 -- end
theorem tiles_o0 {w0:World} {F:Ch} (g0 gc:Nat) (g:Grd) (bs:List Bld) (tick players nextid:Int) {vt vb vu:Value} (h0:Rd (Sat w0 [F]) g.tiles [vt]) (h1:Rd (Sat w0 [F]) bs [vb]) {v1 v2:Value} {o1 o2:Option (List Bool)} {l:List Bool} {q c:Nat} (w:World) (s:Sat w0 [blk g0 [.int .i64 tick,.int .i64 players,.int .i64 nextid,.int .i64 g.w,.int .i64 g.h,vt,vb,vu,rowV (some q,c) l.length,v1,v2,.pointer (some ⟨gc,0,none⟩)] 164,orow 4 (rowV (some q,c) l.length) (some l),orow 4 (v1) o1,orow 4 (v2) o2,F] w):Calls Tryz.prog 120 #[.pointer (some ⟨g0,0,none⟩),.int .i64 0] w fun e w'=>e = .returned (rowV (some q,c) l.length)∧Sat w0 [blk g0 [.int .i64 tick,.int .i64 players,.int .i64 nextid,.int .i64 g.w,.int .i64 g.h,vt,vb,vu,rowV (some q,c) l.length,v1,v2,.pointer (some ⟨gc,0,none⟩)] 164,orow 4 (rowV (some q,c) l.length) (some l),orow 4 (v1) o1,orow 4 (v2) o2,F] w':=by
 refine te Tryz.func120 s ?_
 refine au 2 ?_
 refine T.seq fun _ k2=>T.seq fun _ k3=>T.region (au 4 ?_)
 refine rp (Pu.indexAr ar161 rfl rfl (by decide)) (rq (Qt.ldB 0 ty41.h rfl rfl rfl) (rp (Pu.eqNilSl usl41 rfl) (RS.nil (k3 _ _ ?_))))
 refine T.cond rfl (fun hc11=>?_) (fun hc11=>?_)
 ·cases hc11 -- end
 refine T.skip (k2 _ _ (kq [0,1] ?_))
 refine T.seq fun _ k4=>T.region (au 4 ?_)
 refine rp (Pu.indexAr ar161 rfl rfl (by decide)) (au 2 ?_)
 refine RS.nil (k4 _ _ (kq [4] ?_))
 refine T.retTo (by with_reducible ((repeat (first | apply RetTo.seq | apply RetTo.blk)); exact RetTo.refl _)) (Cont.ret1 rfl rfl fun w' s=>?_)
 exact ⟨rfl,s⟩
theorem tiles_n1 {w0:World} {F:Ch} (g0 gc:Nat) (g:Grd) (bs:List Bld) (tick players nextid:Int) {vt vb vu:Value} (h0:Rd (Sat w0 [F]) g.tiles [vt]) (h1:Rd (Sat w0 [F]) bs [vb]) {v0 v2:Value} {o0 o2:Option (List Bool)} {l:List Bool} (H:clear_Tiles g bs 1 = some l) (hl:0 < l.length) (w:World) (s:Sat w0 [blk g0 [.int .i64 tick,.int .i64 players,.int .i64 nextid,.int .i64 g.w,.int .i64 g.h,vt,vb,vu,v0,.slice none 0 0,v2,.pointer (some ⟨gc,0,none⟩)] 164,orow 4 (v0) o0,orow 4 (.slice none 0 0) (none:Option (List Bool)),orow 4 (v2) o2,F] w):Calls Tryz.prog 120 #[.pointer (some ⟨g0,0,none⟩),.int .i64 1] w fun e w'=>∃ q:Option Nat × Nat,e = .returned (rowV q l.length)∧Sat w0 [blk g0 [.int .i64 tick,.int .i64 players,.int .i64 nextid,.int .i64 g.w,.int .i64 g.h,vt,vb,vu,v0,rowV q l.length,v2,.pointer (some ⟨gc,0,none⟩)] 164,orow 4 (v0) o0,orow 4 (rowV q l.length) (some l),orow 4 (v2) o2,F] w':=by
 refine te Tryz.func120 s ?_
 refine au 2 ?_
 refine T.seq fun _ k2=>T.seq fun _ k3=>T.region (au 4 ?_)
 refine rp (Pu.indexAr ar161 rfl rfl (by decide)) (rq (Qt.ldB 0 ty41.h rfl rfl rfl) (rp (Pu.eqNilSl usl41 rfl) (RS.nil (k3 _ _ ?_))))
 refine T.cond rfl (fun hc11=>?_) (fun hc11=>?_)
 ·refine kq [0,1] ?_
  refine T.drawn (fun _=>True) [(0,.pu),(1,.pu),(2,.pu),(3,.pu),(4,.pu),(5,.pu),(6,.rd),(7,.pu),(8,.pu),(9,.pu),(10,.pu),(11,.rd),(12,.pu),(14,.pu),(15,.pu),(13,.so),(16,.pu),(17,.br)] mixed (ClE.sat _ _) (by kernel_rfl) ?_
  refine au 15 ?_
  refine RD.solid rfl (.inl rfl) rfl rfl (Sd.callN ent177 rfl (fun w s=>clear_Tiles_walk g bs 1 w (Rd.ofFrame 4 rfl h0 w s) (Rd.ofFrame 4 rfl h1 w s) H)) (fun _=>ClE.sat _ _) (fun _ _ _=>trivial) (fun _ _ _ s=>s.drop1) fun q=>?_
  refine dp rfl (Pu.indexAr ar161 rfl rfl (by decide)) (RD.solid rfl (.inr rfl) rfl rfl (Sd.stB (cs':=[_,_,_,_,_,_,_,_,_,_,_,_]) 0 ty41.h rfl rfl rfl rfl rfl rfl rfl rfl) (fun _=>ClE.sat _ _) (fun _ _ _=>trivial) (fun h=>nomatch h) fun _=>?_)
  refine RD.nil (k2 _ _ (kq [0,1] ?_))
  refine T.seq fun _ k4=>T.region (au 4 ?_)
  refine rp (Pu.indexAr ar161 rfl rfl (by decide)) (au 2 ?_)
  refine RS.nil (k4 _ _ (kq [4] ?_))
  refine T.retTo (by with_reducible ((repeat (first | apply RetTo.seq | apply RetTo.blk)); exact RetTo.refl _)) (Cont.ret1 rfl rfl fun w' s=>?_)
  exact ⟨q,rfl,(Sat.rowOrow 5 s rfl hl).pick [0,1,5,3,4] (by decide) rfl⟩
 cases hc11 -- end
theorem tiles_o1 {w0:World} {F:Ch} (g0 gc:Nat) (g:Grd) (bs:List Bld) (tick players nextid:Int) {vt vb vu:Value} (h0:Rd (Sat w0 [F]) g.tiles [vt]) (h1:Rd (Sat w0 [F]) bs [vb]) {v0 v2:Value} {o0 o2:Option (List Bool)} {l:List Bool} {q c:Nat} (w:World) (s:Sat w0 [blk g0 [.int .i64 tick,.int .i64 players,.int .i64 nextid,.int .i64 g.w,.int .i64 g.h,vt,vb,vu,v0,rowV (some q,c) l.length,v2,.pointer (some ⟨gc,0,none⟩)] 164,orow 4 (v0) o0,orow 4 (rowV (some q,c) l.length) (some l),orow 4 (v2) o2,F] w):Calls Tryz.prog 120 #[.pointer (some ⟨g0,0,none⟩),.int .i64 1] w fun e w'=>e = .returned (rowV (some q,c) l.length)∧Sat w0 [blk g0 [.int .i64 tick,.int .i64 players,.int .i64 nextid,.int .i64 g.w,.int .i64 g.h,vt,vb,vu,v0,rowV (some q,c) l.length,v2,.pointer (some ⟨gc,0,none⟩)] 164,orow 4 (v0) o0,orow 4 (rowV (some q,c) l.length) (some l),orow 4 (v2) o2,F] w':=by
 refine te Tryz.func120 s ?_
 refine au 2 ?_
 refine T.seq fun _ k2=>T.seq fun _ k3=>T.region (au 4 ?_)
 refine rp (Pu.indexAr ar161 rfl rfl (by decide)) (rq (Qt.ldB 0 ty41.h rfl rfl rfl) (rp (Pu.eqNilSl usl41 rfl) (RS.nil (k3 _ _ ?_))))
 refine T.cond rfl (fun hc11=>?_) (fun hc11=>?_)
 ·cases hc11 -- end
 refine T.skip (k2 _ _ (kq [0,1] ?_))
 refine T.seq fun _ k4=>T.region (au 4 ?_)
 refine rp (Pu.indexAr ar161 rfl rfl (by decide)) (au 2 ?_)
 refine RS.nil (k4 _ _ (kq [4] ?_))
 refine T.retTo (by with_reducible ((repeat (first | apply RetTo.seq | apply RetTo.blk)); exact RetTo.refl _)) (Cont.ret1 rfl rfl fun w' s=>?_)
 exact ⟨rfl,s⟩
theorem tiles_n2 {w0:World} {F:Ch} (g0 gc:Nat) (g:Grd) (bs:List Bld) (tick players nextid:Int) {vt vb vu:Value} (h0:Rd (Sat w0 [F]) g.tiles [vt]) (h1:Rd (Sat w0 [F]) bs [vb]) {v0 v1:Value} {o0 o1:Option (List Bool)} {l:List Bool} (H:clear_Tiles g bs 2 = some l) (hl:0 < l.length) (w:World) (s:Sat w0 [blk g0 [.int .i64 tick,.int .i64 players,.int .i64 nextid,.int .i64 g.w,.int .i64 g.h,vt,vb,vu,v0,v1,.slice none 0 0,.pointer (some ⟨gc,0,none⟩)] 164,orow 4 (v0) o0,orow 4 (v1) o1,orow 4 (.slice none 0 0) (none:Option (List Bool)),F] w):Calls Tryz.prog 120 #[.pointer (some ⟨g0,0,none⟩),.int .i64 2] w fun e w'=>∃ q:Option Nat × Nat,e = .returned (rowV q l.length)∧Sat w0 [blk g0 [.int .i64 tick,.int .i64 players,.int .i64 nextid,.int .i64 g.w,.int .i64 g.h,vt,vb,vu,v0,v1,rowV q l.length,.pointer (some ⟨gc,0,none⟩)] 164,orow 4 (v0) o0,orow 4 (v1) o1,orow 4 (rowV q l.length) (some l),F] w':=by
 refine te Tryz.func120 s ?_
 refine au 2 ?_
 refine T.seq fun _ k2=>T.seq fun _ k3=>T.region (au 4 ?_)
 refine rp (Pu.indexAr ar161 rfl rfl (by decide)) (rq (Qt.ldB 0 ty41.h rfl rfl rfl) (rp (Pu.eqNilSl usl41 rfl) (RS.nil (k3 _ _ ?_))))
 refine T.cond rfl (fun hc11=>?_) (fun hc11=>?_)
 ·refine kq [0,1] ?_
  refine T.drawn (fun _=>True) [(0,.pu),(1,.pu),(2,.pu),(3,.pu),(4,.pu),(5,.pu),(6,.rd),(7,.pu),(8,.pu),(9,.pu),(10,.pu),(11,.rd),(12,.pu),(14,.pu),(15,.pu),(13,.so),(16,.pu),(17,.br)] mixed (ClE.sat _ _) (by kernel_rfl) ?_
  refine au 15 ?_
  refine RD.solid rfl (.inl rfl) rfl rfl (Sd.callN ent177 rfl (fun w s=>clear_Tiles_walk g bs 2 w (Rd.ofFrame 4 rfl h0 w s) (Rd.ofFrame 4 rfl h1 w s) H)) (fun _=>ClE.sat _ _) (fun _ _ _=>trivial) (fun _ _ _ s=>s.drop1) fun q=>?_
  refine dp rfl (Pu.indexAr ar161 rfl rfl (by decide)) (RD.solid rfl (.inr rfl) rfl rfl (Sd.stB (cs':=[_,_,_,_,_,_,_,_,_,_,_,_]) 0 ty41.h rfl rfl rfl rfl rfl rfl rfl rfl) (fun _=>ClE.sat _ _) (fun _ _ _=>trivial) (fun h=>nomatch h) fun _=>?_)
  refine RD.nil (k2 _ _ (kq [0,1] ?_))
  refine T.seq fun _ k4=>T.region (au 4 ?_)
  refine rp (Pu.indexAr ar161 rfl rfl (by decide)) (au 2 ?_)
  refine RS.nil (k4 _ _ (kq [4] ?_))
  refine T.retTo (by with_reducible ((repeat (first | apply RetTo.seq | apply RetTo.blk)); exact RetTo.refl _)) (Cont.ret1 rfl rfl fun w' s=>?_)
  exact ⟨q,rfl,(Sat.rowOrow 5 s rfl hl).pick [0,1,2,5,4] (by decide) rfl⟩
 cases hc11 -- end
theorem tiles_o2 {w0:World} {F:Ch} (g0 gc:Nat) (g:Grd) (bs:List Bld) (tick players nextid:Int) {vt vb vu:Value} (h0:Rd (Sat w0 [F]) g.tiles [vt]) (h1:Rd (Sat w0 [F]) bs [vb]) {v0 v1:Value} {o0 o1:Option (List Bool)} {l:List Bool} {q c:Nat} (w:World) (s:Sat w0 [blk g0 [.int .i64 tick,.int .i64 players,.int .i64 nextid,.int .i64 g.w,.int .i64 g.h,vt,vb,vu,v0,v1,rowV (some q,c) l.length,.pointer (some ⟨gc,0,none⟩)] 164,orow 4 (v0) o0,orow 4 (v1) o1,orow 4 (rowV (some q,c) l.length) (some l),F] w):Calls Tryz.prog 120 #[.pointer (some ⟨g0,0,none⟩),.int .i64 2] w fun e w'=>e = .returned (rowV (some q,c) l.length)∧Sat w0 [blk g0 [.int .i64 tick,.int .i64 players,.int .i64 nextid,.int .i64 g.w,.int .i64 g.h,vt,vb,vu,v0,v1,rowV (some q,c) l.length,.pointer (some ⟨gc,0,none⟩)] 164,orow 4 (v0) o0,orow 4 (v1) o1,orow 4 (rowV (some q,c) l.length) (some l),F] w':=by
 refine te Tryz.func120 s ?_
 refine au 2 ?_
 refine T.seq fun _ k2=>T.seq fun _ k3=>T.region (au 4 ?_)
 refine rp (Pu.indexAr ar161 rfl rfl (by decide)) (rq (Qt.ldB 0 ty41.h rfl rfl rfl) (rp (Pu.eqNilSl usl41 rfl) (RS.nil (k3 _ _ ?_))))
 refine T.cond rfl (fun hc11=>?_) (fun hc11=>?_)
 ·cases hc11 -- end
 refine T.skip (k2 _ _ (kq [0,1] ?_))
 refine T.seq fun _ k4=>T.region (au 4 ?_)
 refine rp (Pu.indexAr ar161 rfl rfl (by decide)) (au 2 ?_)
 refine RS.nil (k4 _ _ (kq [4] ?_))
 refine T.retTo (by with_reducible ((repeat (first | apply RetTo.seq | apply RetTo.blk)); exact RetTo.refl _)) (Cont.ret1 rfl rfl fun w' s=>?_)
 exact ⟨rfl,s⟩
theorem army_tiles_walk {w0:World} {F:Ch} (g0 gc:Nat) (g:Grd) (bs:List Bld) (tick players nextid:Int) {vt vb vu:Value} (h0:Rd (Sat w0 [F]) g.tiles [vt]) (h1:Rd (Sat w0 [F]) bs [vb]) {va vb' vc:Value} (o:O3) (k:Int) {r:List Bool × O3} (H:army_tiles g bs o k = some r) (w:World) (s:Sat w0 ([blk g0 [.int .i64 tick,.int .i64 players,.int .i64 nextid,.int .i64 g.w,.int .i64 g.h,vt,vb,vu,va,vb',vc,.pointer (some ⟨gc,0,none⟩)] 164,opn 4 va vb' vc o] ++ [F]) w):Calls Tryz.prog 120 #[.pointer (some ⟨g0,0,none⟩),.int .i64 k] w fun e w'=>∃ z:Value × Value × Value,e = .returned (vsel z.1 z.2.1 z.2.2 k)∧Sat w0 ([blk g0 [.int .i64 tick,.int .i64 players,.int .i64 nextid,.int .i64 g.w,.int .i64 g.h,vt,vb,vu,z.1,z.2.1,z.2.2,.pointer (some ⟨gc,0,none⟩)] 164,opn 4 z.1 z.2.1 z.2.2 r.2] ++ [F]) w':=by
 obtain ⟨oa,ob,oc⟩:=o
 have s1:Sat w0 [blk g0 [.int .i64 tick,.int .i64 players,.int .i64 nextid,.int .i64 g.w,.int .i64 g.h,vt,vb,vu,va,vb',vc,.pointer (some ⟨gc,0,none⟩)] 164,orow 4 va oa,orow 4 vb' ob,orow 4 vc oc,F] w:=(Sat.unstars [orow 4 va oa,orow 4 vb' ob,orow 4 vc oc] (G:=[blk g0 [.int .i64 tick,.int .i64 players,.int .i64 nextid,.int .i64 g.w,.int .i64 g.h,vt,vb,vu,va,vb',vc,.pointer (some ⟨gc,0,none⟩)] 164,F]) (s.pc [1,0,2])).pick [0,2,3,4,1] (by decide) rfl
 unfold army_tiles at H
 obtain ⟨hk,H⟩:=gdE H
 have pk:∀ {w':World} {x y z:Value} {a b c:Option (List Bool)},Sat w0 [blk g0 [.int .i64 tick,.int .i64 players,.int .i64 nextid,.int .i64 g.w,.int .i64 g.h,vt,vb,vu,x,y,z,.pointer (some ⟨gc,0,none⟩)] 164,orow 4 x a,orow 4 y b,orow 4 z c,F] w'→Sat w0 ([blk g0 [.int .i64 tick,.int .i64 players,.int .i64 nextid,.int .i64 g.w,.int .i64 g.h,vt,vb,vu,x,y,z,.pointer (some ⟨gc,0,none⟩)] 164,opn 4 x y z ⟨a,b,c⟩] ++ [F]) w':=fun s=>(Sat.toStars _ (G:=[_,F]) (s.pc [0,4,1,2,3])).pick [1,0,2] (by decide) rfl
 rcases (show k = 0 ∨ k = 1 ∨ k = 2 by omega) with rfl | rfl | rfl
 ·cases oa with
  | some l =>
   obtain rfl:=sj H
   obtain ⟨q,c,rfl⟩:=Sat.orow_some 1 s1 rfl rfl
   exact (tiles_o0 g0 gc g bs tick players nextid h0 h1 w s1).mono fun e w' ⟨he,s⟩=>⟨(rowV (some q,c) l.length,vb',vc),he,pk s⟩
  | none =>
   obtain ⟨l,hl,H⟩:=bindE H
   obtain ⟨hp,H⟩:=gdE H
   obtain rfl:=sj H
   obtain rfl:=Sat.orow_none 1 s1 rfl rfl
   exact (tiles_n0 g0 gc g bs tick players nextid h0 h1 hl hp w s1).mono fun e w' ⟨q,he,s⟩=>⟨(rowV q l.length,vb',vc),he,pk s⟩
 ·cases ob with
  | some l =>
   obtain rfl:=sj H
   obtain ⟨q,c,rfl⟩:=Sat.orow_some 2 s1 rfl rfl
   exact (tiles_o1 g0 gc g bs tick players nextid h0 h1 w s1).mono fun e w' ⟨he,s⟩=>⟨(va,rowV (some q,c) l.length,vc),he,pk s⟩
  | none =>
   obtain ⟨l,hl,H⟩:=bindE H
   obtain ⟨hp,H⟩:=gdE H
   obtain rfl:=sj H
   obtain rfl:=Sat.orow_none 2 s1 rfl rfl
   exact (tiles_n1 g0 gc g bs tick players nextid h0 h1 hl hp w s1).mono fun e w' ⟨q,he,s⟩=>⟨(va,rowV q l.length,vc),he,pk s⟩
 cases oc with
 | some l =>
  obtain rfl:=sj H
  obtain ⟨q,c,rfl⟩:=Sat.orow_some 3 s1 rfl rfl
  exact (tiles_o2 g0 gc g bs tick players nextid h0 h1 w s1).mono fun e w' ⟨he,s⟩=>⟨(va,vb',rowV (some q,c) l.length),he,pk s⟩
 | none =>
  obtain ⟨l,hl,H⟩:=bindE H
  obtain ⟨hp,H⟩:=gdE H
  obtain rfl:=sj H
  obtain rfl:=Sat.orow_none 3 s1 rfl rfl
  exact (tiles_n2 g0 gc g bs tick players nextid h0 h1 hl hp w s1).mono fun e w' ⟨q,he,s⟩=>⟨(va,vb',rowV q l.length),he,pk s⟩
end Go.Proofs.YtmngdgclldkcfaaGreat
set_option linter.unusedVariables false
set_option linter.unusedSimpArgs false
set_option maxRecDepth 20000
set_option maxHeartbeats 4000000
namespace Go.Proofs.YtmngdgclldkcfaaGreat
open Go.Vg
open Enc (R)
def army_Near (a0_s:Std) (a1_p:Vec) (a2_r:Int):Option (List Unt) :=
  if I64 (a2_r + 81920) then
  Option.bind (cells_Near a0_s.cs a1_p (a2_r + 81920)) fun x10 =>
  Option.bind (α:=List Unt) (loop (σ:=List Unt × Int) (β:=List Unt) (fun (l15,v17) =>
  if v17 < (x10.length:Int) then
  if 0 ≤ v17∧v17 < (x10.length:Int) then
  Option.bind (army_At a0_s.w.us (gi x10 v17)) fun x30 =>
  if 0 ≤ x30.1∧x30.1 < (a0_s.w.us.length:Int) then
  if l15.length < 1099511627776 then
  if I64 (v17 + 1) then
  some (St.next ((l15 ++ [(gi a0_s.w.us x30.1)]),(v17 + 1)))
  else none
  else none
  else none
  else none
  else
  some (St.done l15)) ([],0)) fun v13 =>
  some v13
  else none
def army_Place (a0_s:Std) (a1_id:Int) (a2_k:Int) (a3_p:Vec):Option (Bool × Std) :=
  Option.bind (kind_What a2_k) fun x2 =>
  Option.bind (army_tiles a0_s.w.g a0_s.w.bs a0_s.op x2.cls) fun x11 =>
  Option.bind (disc_Fits a0_s.w.g x11.1 a3_p x2.radius) fun x15 =>
  if (!x15) = true then
  none
  else
  Option.bind (army_Near (⟨a0_s.w,x11.2,a0_s.cs⟩:Std) a3_p x2.radius) fun x17 =>
  Option.bind (α:=Ex (Unit) (Bool × Std)) (loop (σ:=Int) (β:=Ex (Unit) (Bool × Std)) (fun v20 =>
  if v20 < (x17.length:Int) then
  if 0 ≤ v20∧v20 < (x17.length:Int) then
  Option.bind (if ¬ (gi x17 v20).id = a1_id then
  Option.bind (kind_What ((gi x17 v20).kind)) fun x33 =>
  Option.bind (disc_Apart a3_p x2.radius ((gi x17 v20).pos) x33.radius) fun x34 =>
  some (!x34)
  else
  some false) fun b29 =>
  if b29 = true then
  none
  else
  if I64 (v20 + 1) then
  some (St.next (v20 + 1))
  else none
  else none
  else
  some (St.done (Ex.go ()))) 0) fun x=>x.then fun _ =>
  some (true,(⟨a0_s.w,x11.2,a0_s.cs⟩:Std))
def army_Put (a0_s:Std) (a1_u:Unt):Option Std :=
  Option.bind (army_At a0_s.w.us a1_u.id) fun x9 =>
  if 0 ≤ x9.1∧x9.1 < (a0_s.w.us.length:Int) then
  if a1_u.inn = 0 then
  Option.bind (cells_Put a0_s.cs a1_u.id a1_u.pos) fun x14 =>
  some (⟨(⟨a0_s.w.tick,a0_s.w.players,a0_s.w.nextid,a0_s.w.g,a0_s.w.bs,(si a0_s.w.us x9.1 a1_u)⟩:Wld),a0_s.op,x14⟩:Std)
  else
  none
  else none
end Go.Proofs.YtmngdgclldkcfaaGreat
