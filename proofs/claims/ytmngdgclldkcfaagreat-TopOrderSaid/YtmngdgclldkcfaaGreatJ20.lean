/-
  Texts of one's own, joined: YT EE.
-/
import Derived.Test.YtmngdgclldkcfaaGreatRows
import Derived.Test.YtmngdgclldkcfaaGreatJ6
import Derived.Test.YtmngdgclldkcfaaGreatJ7
import Derived.Test.YtmngdgclldkcfaaGreatJ19
import Derived.Test.YtmngdgclldkcfaaGreatJ13
import Derived.Test.YtmngdgclldkcfaaGreatJ16
set_option linter.unusedVariables false
set_option linter.unusedSimpArgs false
set_option maxRecDepth 20000
set_option maxHeartbeats 4000000
namespace Go.Proofs.YtmngdgclldkcfaaGreat
open Go.Vg
open Enc (R)
theorem ent38:Ent Tryz.prog 38:=en Tryz.func38
theorem ent71:Ent Tryz.prog 71:=en Tryz.func71
theorem ent77:Ent Tryz.prog 77:=en Tryz.func77
theorem ent82:Ent Tryz.prog 82:=en Tryz.func82
theorem st159:stTy Tryz.prog 159 = some ([.pointer none,.int .i64 0,.int .i64 0,.int .i64 0,.int .i64 0,.slice none 0 0,.int .i64 0,.int .i64 0,.int .i64 0,.int .i64 0,.int .i64 0,.nilFunc],[(0,1),(1,10),(11,1)]):=by kernel_rfl
theorem st185:stTy Tryz.prog 185 = some ([.pointer none,.nilIface],[(0,1),(1,1)]):=by kernel_rfl
theorem ulF:Tryz.prog.underlying 100 = some (.pointer 147):=by kernel_rfl
def apply_Do (W:Wld) (c:Cmd) (f:Fld):Option ((Wld × Int) × Fld):=Option.bind (command_May c) fun b =>
  if b = true then if W.players < c.player then some ((W,1),f) else
  Option.bind (army_Own W) fun W1=>Option.bind (army_Open W1) fun S1=>Option.bind (work_does c ⟨S1,f⟩) fun x =>
  if x.1 = 0 then some ((x.2.s.w,0),x.2.f) else some ((W,x.1),x.2.f)
  else some ((W,1),f)
theorem apply_Do_walk {w0:World} {F:Ch} (W:Wld) (c:Cmd) (f:Fld) (gf:Nat) {qt qb qu:Option Nat × Nat} {vu:Value} (hv:Rd (Sat w0 [F]) c.units [vu]) {r:(Wld × Int) × Fld} (H:apply_Do W c f = some r) (w:World) (s:Sat w0 [row nilH 5 (rowV qt W.g.tiles.length) W.g.tiles,row nilH 135 (rowV qb W.bs.length) W.bs,row nilH 54 (rowV qu W.us.length) W.us,Fld_ch gf f,F] w):Calls Tryz.prog 39 #[.agg #[.int .i64 W.tick,.int .i64 W.players,.int .i64 W.nextid,.int .i64 W.g.w,.int .i64 W.g.h,rowV qt W.g.tiles.length,rowV qb W.bs.length,rowV qu W.us.length],.agg #[.int .i64 c.player,.int .i64 c.seq,.int .i64 c.kind,.int .i64 c.n,vu,.int .i64 c.tile,.int .i64 c.w,.int .i64 c.h,.int .i64 c.pos.x,.int .i64 c.pos.y],.func (.func 40) #[.pointer (some ⟨gf,0,none⟩)] #[]] w fun e w'=>∃ z:(Option Nat × Nat) × (Option Nat × Nat) × (Option Nat × Nat),e = .returned (.tuple #[.agg #[.int .i64 r.1.1.tick,.int .i64 r.1.1.players,.int .i64 r.1.1.nextid,.int .i64 r.1.1.g.w,.int .i64 r.1.1.g.h,rowV z.1 r.1.1.g.tiles.length,rowV z.2.1 r.1.1.bs.length,rowV z.2.2 r.1.1.us.length],.int .i64 r.1.2])∧Sat w0 ([row nilH 5 (rowV z.1 r.1.1.g.tiles.length) r.1.1.g.tiles,row nilH 135 (rowV z.2.1 r.1.1.bs.length) r.1.1.bs,row nilH 54 (rowV z.2.2 r.1.1.us.length) r.1.1.us,Fld_ch gf r.2] ++ [F]) w':=by
 unfold apply_Do at H
 obtain ⟨b,hb,H⟩:=bindE H
 refine te Tryz.func39 s ?_
 refine T.seq fun _ k1=>T.region (RS.solid (Sd.box (cs:=[_,_,_,_,_,_,_,_]) rfl rfl) rfl rfl fun b3=>RS.solid (Sd.box (cs:=[_,_,_,_,_,_,_,_,_,_]) rfl rfl) rfl rfl fun b4=>RS.solid (Sd.alloc zr52 rfl) rfl rfl fun b6=>rA rfl (RS.nil (k1 _ _ (kq [2,3,4,6] ?_))))
 refine T.seq fun _ k2=>T.seq fun _ k3=>T.region (rq (Qt.ldBA (us:=[_,_,_,_,_,_,_,_,_,_]) 6 ty37.h rfl rfl rfl rfl) (rq (Qt.call (⟨_,_,Tryz.func76,by kernel_rfl,rfl⟩:Ent Tryz.prog 76) rfl fun w s=>command_May_walk c w (Rd.ofFrame 4 rfl hv w s) hb) (au 2 ?_)))
 refine RS.split 13 rfl (fun h13=>?_) (fun h13=>?_)
 ·have H:=ifB (by simpa using h13) H
  obtain rfl:=sj H
  refine au 6 ?_
  refine RS.nil (k3 _ _ ?_)
  refine T.condT rfl ?_
  refine kq [3,6] ?_
  refine au 4 ?_
  refine T.retTo (by with_reducible ((repeat (first | apply RetTo.seq | apply RetTo.blk)); exact RetTo.refl _)) (Cont.retCT 7 rfl ty52.h rfl rfl rfl rfl fun w' s=>?_)
  exact ⟨(qt,qb,qu),rfl,s.pc [0,1,2,3,4]⟩
 have H:=ifT (by simpa using h13) H
 refine au 6 ?_
 refine RS.nil (k3 _ _ ?_)
 refine T.cP H rfl (fun hc19 H=>?_) (fun hc19 H=>?_)
 ·obtain rfl:=sj H
  refine kq [3,6] ?_
  refine au 4 ?_
  refine T.retTo (by with_reducible ((repeat (first | apply RetTo.seq | apply RetTo.blk)); exact RetTo.refl _)) (Cont.retCT 7 rfl ty52.h rfl rfl rfl rfl fun w' s=>?_)
  exact ⟨(qt,qb,qu),rfl,s.pc [0,1,2,3,4]⟩
 obtain ⟨W1,hW,H⟩:=bindE H
 obtain ⟨S1,hS,H⟩:=bindE H
 obtain ⟨x,hx,H⟩:=bindE H
 refine T.skip (k2 _ _ (kq [2,3,4,6] ?_))
 refine T.seq fun _ k6=>?_
 refine T.drawnS [0,1,2,3,4,5,6,7] [(0,.wk),(3,.wk),(4,.pu),(1,.so),(2,.br),(5,.pu),(6,.so),(7,.pu)] mixed (by kernel_rfl) rfl ?_
 refine au 3 ?_
 refine RD.solid rfl (.inl rfl) rfl rfl (Sd.callN ent38 rfl (fun w s=>army_Own_walk W w (Rd.ofRowN 0 rfl w s) (Rd.ofRowN 1 rfl w s) (Rd.ofRowN 2 rfl w s) hW)) (fun _=>ClE.sat _ _) (fun _ w s=>s.pc [0,1,2,3,4,5,6,7]) (fun _ _ _ s=>s.drop1) fun ⟨p0,p1,p2⟩=>?_
 refine RD.solid rfl (.inr rfl) rfl rfl (Sd.post (S2:=fun g:Nat=>Sat w0 [row nilH 5 (rowV qt W.g.tiles.length) W.g.tiles,row nilH 135 (rowV qb W.bs.length) W.bs,row nilH 54 (rowV qu W.us.length) W.us,Fld_ch gf f,F,blk b3 [.int .i64 W.tick,.int .i64 W.players,.int .i64 W.nextid,.int .i64 W.g.w,.int .i64 W.g.h,rowV qt W.g.tiles.length,rowV qb W.bs.length,rowV qu W.us.length] 52,blk b4 [.int .i64 c.player,.int .i64 c.seq,.int .i64 c.kind,.int .i64 c.n,vu,.int .i64 c.tile,.int .i64 c.w,.int .i64 c.h,.int .i64 c.pos.x,.int .i64 c.pos.y] 37,blk b6 [.int .i64 0,.int .i64 0,.int .i64 0,.int .i64 0,.int .i64 0,.slice none 0 0,.slice none 0 0,.slice none 0 0] 52,Std_ch g S1]) (Sd.call ent71 rfl fun w s=>callFr (A:=[_,_,_]) (B:=[_,_,_,_,_,_,_,_]) (fun w s=>army_Open_walk W1 hS w s) (s.pc [8,9,10,0,1,2,3,4,5,6,7])) (fun g w s=>s.pc [1,2,3,4,5,6,7,8,0])) (fun _=>ClE.sat _ _) (fun _ w s=>s.pc [0,1,2,3,4,5,6,7]) (fun h=>nomatch h) fun gs=>?_
 refine RD.p (fun w s=>s.pc [0,1,2,3,4,5,6,7]) rfl (Pu.build (cells:=[_,_,_,_,_,_,_,_,_,_,_,_]) st159 rfl rfl) rfl rfl (RD.solid rfl (.inl rfl) rfl rfl (Sd.box (cs:=[_,_,_,_,_,_,_,_,_,_,_,_]) rfl rfl) (fun _=>ClE.sat _ _) (fun _ w s=>s.pc [0,1,2,3,4,5,6,7]) (fun _ _ _ s=>s.drop1) fun b27=>?_)
 refine RD.p (fun w s=>s.pc [0,1,2,3,4,5,6,7]) rfl (Pu.assign rfl) rfl rfl (RD.nil (k6 _ _ (kq [3,6,8] ?_)))
 refine T.seq fun _ k7=>T.seq fun _ k8=>?_
 refine T.weakS (S':=Sat w0 [Wrk_ch b27 gf vu c ⟨S1,f⟩,row nilH 5 (rowV qt W.g.tiles.length) W.g.tiles,row nilH 135 (rowV qb W.bs.length) W.bs,row nilH 54 (rowV qu W.us.length) W.us,F,blk b3 [.int .i64 W.tick,.int .i64 W.players,.int .i64 W.nextid,.int .i64 W.g.w,.int .i64 W.g.h,rowV qt W.g.tiles.length,rowV qb W.bs.length,rowV qu W.us.length] 52,blk b4 [.int .i64 c.player,.int .i64 c.seq,.int .i64 c.kind,.int .i64 c.n,vu,.int .i64 c.tile,.int .i64 c.w,.int .i64 c.h,.int .i64 c.pos.x,.int .i64 c.pos.y] 37,blk b6 [.int .i64 0,.int .i64 0,.int .i64 0,.int .i64 0,.int .i64 0,.slice none 0 0,.slice none 0 0,.slice none 0 0] 52]) (fun w s=>Wrk_shut (x:=⟨S1,f⟩) gs (s.pc [0,1,2,4,5,6,7,9,8,3])) ?_
 refine T.region (rM rfl (RS.solid (Sd.callF0 0 ent77 rfl rfl (fun w s=>work_does_walk b27 gf vu c ⟨S1,f⟩ (Rd.rest 4 rfl (by decide) hv) hx w s)) rfl rfl fun _=>rA rfl (RS.nil (k8 _ _ (kq [3,6,8,9] ?_)))))
 refine au 3 ?_
 refine T.condP rfl (fun hc31=>?_) (fun hc31=>?_)
 ·have H:=ifF hc31 H
  obtain rfl:=sj H
  refine kq [3,6,9] ?_
  refine T.seq fun _ k10=>T.region (au 4 ?_)
  refine RS.nil (k10 _ _ (kq [6,7] ?_))
  refine T.retTo (by with_reducible ((repeat (first | apply RetTo.seq | apply RetTo.blk)); exact RetTo.refl _)) (Cont.retCT 7 rfl ty52.h rfl rfl rfl rfl fun w' s=>?_)
  obtain ⟨g1,s⟩:=Wrk_open 0 rfl s
  exact ⟨(qt,qb,qu),rfl,s.pc [1,2,3,9,4]⟩
 have H:=ifT (Decidable.not_not.1 hc31) H
 obtain rfl:=sj H
 refine T.skip (k7 _ _ (kq [6,8] ?_))
 refine T.seq fun _ k11=>?_
 refine T.ex (fun w s=>Wrk_open 0 rfl s) fun g1=>?_
 refine T.ex (fun w s=>Std_open 8 rfl s) fun g2=>?_
 obtain ⟨qt2,qb2,qu2,va2,vb2,vc2,gc2⟩:=g2
 refine T.region (au 9 ?_)
 refine RS.nil (k11 _ _ (kq [6,7] ?_))
 refine T.retTo (by with_reducible ((repeat (first | apply RetTo.seq | apply RetTo.blk)); exact RetTo.refl _)) (Cont.retCT 7 rfl ty52.h rfl rfl rfl rfl fun w' s=>?_)
 exact ⟨(qt2,qb2,qu2),rfl,s.pc [10,11,12,9,4]⟩
def goL:Nat→Nat→Mvr→Option Mvr
  | 0,_,m=>some m
  | n + 1,i,m=>if (i:Int) < (m.s.w.us.length:Int) then if (gi m.s.w.us (i:Int)).inn = 0 then Option.bind (mover_unit m (gi m.s.w.us (i:Int))) fun m=>goL n (i + 1) m else goL n (i + 1) m else none
def move_Go (W:Wld) (f:Fld):Option (Wld × Fld):=if (W.us.length:Int) < 1099511627776 then Option.bind (army_Open W) fun S=>Option.bind (goL W.us.length 0 ⟨S,f⟩) fun m=>some (m.s.w,m.f) else none
def goS (k:Nat) (a b:Mvr):Prop:=(k:Int) < (a.s.w.us.length:Int)∧(if (gi a.s.w.us (k:Int)).inn = 0 then mover_unit a (gi a.s.w.us (k:Int)) = some b else b = a)
theorem goL_states:∀ {n i:Nat} {m r:Mvr},goL n i m = some r→∃ st:Nat→Mvr,st i = m∧st (i + n) = r∧∀ k,i ≤ k→k < i + n→goS k (st k) (st (k + 1))
 | 0,i,m,r,h=>⟨fun _=>m,rfl,Option.some.inj h,fun k h1 h2=>absurd h2 (by omega)⟩
 | n + 1,i,m,r,h=>by
  obtain ⟨hi,h⟩:=gdE h
  have h2:∃ p,(if (gi m.s.w.us (i:Int)).inn = 0 then mover_unit m (gi m.s.w.us (i:Int)) = some p else p = m)∧goL n (i + 1) p = some r:=by
   by_cases hc:(gi m.s.w.us (i:Int)).inn = 0
   ·rw [if_pos hc] at h
    obtain ⟨p,hp,h⟩:=bindE h
    exact ⟨p,by rw [if_pos hc]; exact hp,h⟩
   ·rw [if_neg hc] at h
    exact ⟨m,by rw [if_neg hc],h⟩
  obtain ⟨p,hp,h⟩:=h2
  obtain ⟨st,e0,en,es⟩:=goL_states h
  have ei:∀ k,i < k→(fun k=>if k = i then m else st k) k = st k:=fun k hk=>if_neg (by omega)
  refine ⟨fun k=>if k = i then m else st k,if_pos rfl,by rw [ei _ (by omega),show i + (n + 1) = i + 1 + n by omega]; exact en,fun k h1 h2=>?_⟩
  rw [ei (k + 1) (by omega)]
  by_cases hk:k = i
  ·subst hk
   have e1:(fun j=>if j = k then m else st j) k = m:=if_pos rfl
   rw [e1,e0]
   exact ⟨hi,hp⟩
  ·rw [ei k (by omega)]
   exact es k (by omega) (by omega)
theorem move_Go_walk {w0:World} {F:Ch} (W:Wld) (f:Fld) (gf:Nat) {qt qb qu:Option Nat × Nat} {r:Wld × Fld} (H:move_Go W f = some r) (w:World) (s:Sat w0 [row nilH 5 (rowV qt W.g.tiles.length) W.g.tiles,row nilH 135 (rowV qb W.bs.length) W.bs,row nilH 54 (rowV qu W.us.length) W.us,Fld_ch gf f,F] w):Calls Tryz.prog 41 #[.agg #[.int .i64 W.tick,.int .i64 W.players,.int .i64 W.nextid,.int .i64 W.g.w,.int .i64 W.g.h,rowV qt W.g.tiles.length,rowV qb W.bs.length,rowV qu W.us.length],.pointer (some ⟨gf,0,none⟩)] w fun e w'=>∃ z:(Option Nat × Nat) × (Option Nat × Nat) × (Option Nat × Nat),e = .returned (.agg #[.int .i64 r.1.tick,.int .i64 r.1.players,.int .i64 r.1.nextid,.int .i64 r.1.g.w,.int .i64 r.1.g.h,rowV z.1 r.1.g.tiles.length,rowV z.2.1 r.1.bs.length,rowV z.2.2 r.1.us.length])∧Sat w0 ([row nilH 5 (rowV z.1 r.1.g.tiles.length) r.1.g.tiles,row nilH 135 (rowV z.2.1 r.1.bs.length) r.1.bs,row nilH 54 (rowV z.2.2 r.1.us.length) r.1.us,Fld_ch gf r.2] ++ [F]) w':=by
 unfold move_Go at H
 obtain ⟨hn,H⟩:=gdE H
 obtain ⟨S1,hS,H⟩:=bindE H
 obtain ⟨m,hm,H⟩:=bindE H
 obtain rfl:=sj H
 obtain ⟨st,e0,en,es⟩:=goL_states hm
 rw [Nat.zero_add] at en
 refine te Tryz.func41 s ?_
 refine T.seq fun _ k1=>T.region (RS.solid (Sd.box (cs:=[_,_,_,_,_,_,_,_]) rfl rfl) rfl rfl fun b2=>RS.solid (Sd.alloc zr52 rfl) rfl rfl fun b4=>RS.nil (k1 _ _ ?_))
 refine T.seq fun _ k2=>T.region (rq (Qt.ldBA (us:=[_,_,_,_,_,_,_,_]) 5 ty52.h rfl rfl rfl rfl) (RS.solid (Sd.post (S2:=fun g:Nat=>Sat w0 [Fld_ch gf f,F,blk b2 [.int .i64 W.tick,.int .i64 W.players,.int .i64 W.nextid,.int .i64 W.g.w,.int .i64 W.g.h,rowV qt W.g.tiles.length,rowV qb W.bs.length,rowV qu W.us.length] 52,blk b4 [.int .i64 0,.int .i64 0,.int .i64 0,.int .i64 0,.int .i64 0,.slice none 0 0,.slice none 0 0,.slice none 0 0] 52,Std_ch g S1]) (Sd.call ent71 rfl fun w s=>callFr (A:=[_,_,_]) (B:=[_,_,_,_]) (fun w s=>army_Open_walk W hS w s) s) (fun g w s=>s.pc [1,2,3,4,0])) rfl rfl fun gs=>rM rfl (rp (Pu.mkIface ulF rfl) (rp (Pu.build (cells:=[_,_]) st185 rfl rfl) (RS.solid (Sd.box (cs:=[_,_]) rfl rfl) rfl rfl fun b13=>rA rfl (RS.nil (k2 _ _ (kq [2,4,5] ?_))))))))
 refine T.seq fun _ k3=>T.seq fun _ k4=>?_
 refine T.weakS (S':=Sat w0 [Mvr_ch b13 gf ⟨S1,f⟩,F,blk b2 [.int .i64 W.tick,.int .i64 W.players,.int .i64 W.nextid,.int .i64 W.g.w,.int .i64 W.g.h,rowV qt W.g.tiles.length,rowV qb W.bs.length,rowV qu W.us.length] 52,blk b4 [.int .i64 0,.int .i64 0,.int .i64 0,.int .i64 0,.int .i64 0,.slice none 0 0,.slice none 0 0,.slice none 0 0] 52]) (fun w s=>Mvr_shut (x:=⟨S1,f⟩) gs (s.pc [1,2,3,5,4,0])) ?_
 refine T.region (au 4 ?_)
 refine RS.nil (k4 _ _ (kq [4,5,16,17] ?_))
 refine T.block ?_
 refine T.loopK (σ:=Nat) [(4,_),(5,_),(16,_)] (fun i=>[(17,.int .i64 (i:Nat))]) (fun i=>Sat w0 [Mvr_ch b13 gf (st i),F,blk b2 [.int .i64 W.tick,.int .i64 W.players,.int .i64 W.nextid,.int .i64 W.g.w,.int .i64 W.g.h,rowV qt W.g.tiles.length,rowV qb W.bs.length,rowV qu W.us.length] 52,blk b4 [.int .i64 0,.int .i64 0,.int .i64 0,.int .i64 0,.int .i64 0,.slice none 0 0,.slice none 0 0,.slice none 0 0] 52]) (fun i=>i ≤ W.us.length) (fun i=>W.us.length - i) 0 (Nat.zero_le _) sb sb (fun w s=>by rw [e0]; exact s) ?_
 intro i hI K4_ hL1
 refine kq [17,4,5,16] ?_
 refine au 2 ?_
 refine T.seq fun _ k6=>?_
 refine T.condP rfl (fun hc18=>?_) (fun hc18=>?_)
 ·obtain ⟨hs1,hs2⟩:=es i (by omega) (by omega)
  refine T.skip (k6 _ _ ?_)
  refine T.seq fun _ k7=>T.block (au 3 ?_)
  refine T.seq fun _ k9=>?_
  refine T.ex (fun w s=>Mvr_open 0 rfl s) fun g1=>?_
  refine T.ex (fun w s=>Std_open 4 rfl s) fun g2=>?_
  obtain ⟨qt2,qb2,qu2,va2,vb2,vc2,gc2⟩:=g2
  refine T.know (p:=∃ g cap,qu2 = (some g,cap)) (fun w s=>s.row_some (k:=8) rfl (by omega)) ?_
  rintro ⟨gg,cap,rfl⟩
  refine T.region (au 9 ?_)
  refine rp (Pu.indexSl sl50.h rfl rfl (by first | omega | (simp only [len_si,List.length_append,List.length_replicate,List.length_cons,List.length_nil,List.length_map,List.length_take] at *; omega))) (rq (Qt.ldW (α:=Unt) (cs:=[_,_,_,_,_,_,_,_,_,_]) (Rd.ofRowN 8 rfl) ty54.h rfl rfl (by first | omega | (simp only [len_si,List.length_append,List.length_replicate,List.length_cons,List.length_nil,List.length_map,List.length_take] at *; omega)) rfl (by rintro _ _ rfl; rfl)) (RS.solid (Sd.alloc zr54 rfl) rfl rfl fun b7=>RS.solid (Sd.stB (cs':=[_,_,_,_,_,_,_,_,_,_]) 11 ty54.h rfl rfl rfl rfl rfl rfl rfl rfl) rfl rfl fun _=>RS.nil (k9 _ _ (kq [4,5,7,16,17] ?_))))
  refine T.seq fun _ k10=>?_
  refine T.weakS (S':=Sat w0 [Mvr_ch b13 gf (st i),F,blk b2 [.int .i64 W.tick,.int .i64 W.players,.int .i64 W.nextid,.int .i64 W.g.w,.int .i64 W.g.h,rowV qt W.g.tiles.length,rowV qb W.bs.length,rowV qu W.us.length] 52,blk b4 [.int .i64 0,.int .i64 0,.int .i64 0,.int .i64 0,.int .i64 0,.slice none 0 0,.slice none 0 0,.slice none 0 0] 52,blk b7 [.int .i64 (gi (st i).s.w.us (i:Int)).id,.int .i64 (gi (st i).s.w.us (i:Int)).owner,.int .i64 (gi (st i).s.w.us (i:Int)).kind,.int .i64 (gi (st i).s.w.us (i:Int)).pos.x,.int .i64 (gi (st i).s.w.us (i:Int)).pos.y,.int .i64 (gi (st i).s.w.us (i:Int)).goal,.int .i64 (gi (st i).s.w.us (i:Int)).next,.int .i64 (gi (st i).s.w.us (i:Int)).stuck,.int .i64 (gi (st i).s.w.us (i:Int)).inn,.int .i64 (gi (st i).s.w.us (i:Int)).state] 54]) (fun w s=>Mvr_shut (x:=st i) g1 ((Std_shut (x:=(st i).s) (qt2,qb2,(some gg,cap),va2,vb2,vc2,gc2) (R:=[blk b13 [.pointer (some ⟨g1,0,none⟩),.iface 100 (.pointer (some ⟨gf,0,none⟩))] 185,F,blk b2 [.int .i64 W.tick,.int .i64 W.players,.int .i64 W.nextid,.int .i64 W.g.w,.int .i64 W.g.h,rowV qt W.g.tiles.length,rowV qb W.bs.length,rowV qu W.us.length] 52,blk b4 [.int .i64 0,.int .i64 0,.int .i64 0,.int .i64 0,.int .i64 0,.slice none 0 0,.slice none 0 0,.slice none 0 0] 52,Fld_ch gf (st i).f,blk b7 [.int .i64 (gi (st i).s.w.us (i:Int)).id,.int .i64 (gi (st i).s.w.us (i:Int)).owner,.int .i64 (gi (st i).s.w.us (i:Int)).kind,.int .i64 (gi (st i).s.w.us (i:Int)).pos.x,.int .i64 (gi (st i).s.w.us (i:Int)).pos.y,.int .i64 (gi (st i).s.w.us (i:Int)).goal,.int .i64 (gi (st i).s.w.us (i:Int)).next,.int .i64 (gi (st i).s.w.us (i:Int)).stuck,.int .i64 (gi (st i).s.w.us (i:Int)).inn,.int .i64 (gi (st i).s.w.us (i:Int)).state] 54]) (s.pc [0,1,2,3,5,11,4,6,7,8,9,10])).pick [2,3,4,6,1,0,5] (by decide) rfl)) ?_
  refine T.region (au 3 ?_)
  refine RS.nil (k10 _ _ ?_)
  refine T.condP rfl (fun hc33=>?_) (fun hc33=>?_)
  ·rw [if_pos hc33] at hs2
   refine kq [4,5,7,16,17] ?_
   refine T.region (au 2 ?_)
   refine RS.solid (Sd.callF0 0 ent82 rfl rfl (fun w s=>mover_unit_walk b13 gf (st i) _ hs2 w s)) rfl rfl fun _=>RS.nil (k7 _ _ (kq [4,5,16,17] ?_))
   refine T.region (rp (Pu.addS rfl rfl (by omega)) (rM rfl (RS.nil (hL1 _ _ (i + 1) (by omega) (by omega) ⟨congrArg (fun z=>some (Value.int .i64 z)) (by omega),rfl,rfl,rfl,trivial⟩ (fun w s=>s.pc [0,1,2,3])))))
  rw [if_neg hc33] at hs2
  refine T.skip (k7 _ _ (kq [4,5,16,17] ?_))
  refine T.region (rp (Pu.addS rfl rfl (by omega)) (rM rfl (RS.nil (hL1 _ _ (i + 1) (by omega) (by omega) ⟨congrArg (fun z=>some (Value.int .i64 z)) (by omega),rfl,rfl,rfl,trivial⟩ (fun w s=>by rw [hs2]; exact s.pc [0,1,2,3])))))
 obtain rfl:i = W.us.length:=by omega
 refine T.exitTo (by with_reducible (repeat (first | exact ExTo.here | exact ExTo.hereN | exact ExTo.deep (by repeat (first | exact NmTo.seq | apply NmTo.blk)) | apply ExTo.seq | refine ExTo.past (by decide) ?_))) (k3 _ _ (kq [4,5] ?_))
 refine T.seq fun _ k11=>?_
 refine T.ex (fun w s=>Mvr_open 0 rfl s) fun g1=>?_
 refine T.ex (fun w s=>Std_open 4 rfl s) fun g2=>?_
 obtain ⟨qt2,qb2,qu2,va2,vb2,vc2,gc2⟩:=g2
 refine T.region (au 8 ?_)
 refine RS.nil (k11 _ _ (kq [4] ?_))
 refine T.retTo (by with_reducible ((repeat (first | apply RetTo.seq | apply RetTo.blk)); exact RetTo.refl _)) (Cont.retC 3 rfl ty52.h rfl rfl rfl fun w' s=>?_)
 subst en
 exact ⟨(qt2,qb2,qu2),rfl,s.pc [6,7,8,5,1]⟩
end Go.Proofs.YtmngdgclldkcfaaGreat
set_option linter.unusedVariables false
set_option linter.unusedSimpArgs false
set_option maxRecDepth 20000
set_option maxHeartbeats 4000000
namespace Go.Proofs.YtmngdgclldkcfaaGreat
open Go.Vg
open Enc (R)
structure Egn where
  w:Wld
  f:Fld
  deriving Inhabited
def Eng_ch (g:Nat) (x:Egn):Ch:=exch fun q:(Option Nat × Nat) × (Option Nat × Nat) × (Option Nat × Nat) × Nat=>stars ((blk g [.int .i64 x.w.tick,.int .i64 x.w.players,.int .i64 x.w.nextid,.int .i64 x.w.g.w,.int .i64 x.w.g.h,rowV q.1 x.w.g.tiles.length,rowV q.2.1 x.w.bs.length,rowV q.2.2.1 x.w.us.length,.pointer (some ⟨q.2.2.2,0,none⟩)] 105) :: [row nilH 5 (rowV q.1 x.w.g.tiles.length) x.w.g.tiles,row nilH 135 (rowV q.2.1 x.w.bs.length) x.w.bs,row nilH 54 (rowV q.2.2.1 x.w.us.length) x.w.us,Fld_ch q.2.2.2 x.f])
theorem Eng_open {w0 w:World} {G:List Ch} {g:Nat} {x:Egn} (k:Nat) (hk:G[k]? = some (Eng_ch g x)) (h:Sat w0 G w):∃ q:(Option Nat × Nat) × (Option Nat × Nat) × (Option Nat × Nat) × Nat,Sat w0 (G.set k (blk g [.int .i64 x.w.tick,.int .i64 x.w.players,.int .i64 x.w.nextid,.int .i64 x.w.g.w,.int .i64 x.w.g.h,rowV q.1 x.w.g.tiles.length,rowV q.2.1 x.w.bs.length,rowV q.2.2.1 x.w.us.length,.pointer (some ⟨q.2.2.2,0,none⟩)] 105) ++ [row nilH 5 (rowV q.1 x.w.g.tiles.length) x.w.g.tiles,row nilH 135 (rowV q.2.1 x.w.bs.length) x.w.bs,row nilH 54 (rowV q.2.2.1 x.w.us.length) x.w.us,Fld_ch q.2.2.2 x.f]) w:=Sat.openAt (A:=fun q:(Option Nat × Nat) × (Option Nat × Nat) × (Option Nat × Nat) × Nat=>(blk g [.int .i64 x.w.tick,.int .i64 x.w.players,.int .i64 x.w.nextid,.int .i64 x.w.g.w,.int .i64 x.w.g.h,rowV q.1 x.w.g.tiles.length,rowV q.2.1 x.w.bs.length,rowV q.2.2.1 x.w.us.length,.pointer (some ⟨q.2.2.2,0,none⟩)] 105)) (L:=fun q:(Option Nat × Nat) × (Option Nat × Nat) × (Option Nat × Nat) × Nat=>[row nilH 5 (rowV q.1 x.w.g.tiles.length) x.w.g.tiles,row nilH 135 (rowV q.2.1 x.w.bs.length) x.w.bs,row nilH 54 (rowV q.2.2.1 x.w.us.length) x.w.us,Fld_ch q.2.2.2 x.f]) k hk h
theorem Eng_shut {w0 w:World} {R:List Ch} {g:Nat} {x:Egn} (q:(Option Nat × Nat) × (Option Nat × Nat) × (Option Nat × Nat) × Nat) (h:Sat w0 (R ++ [blk g [.int .i64 x.w.tick,.int .i64 x.w.players,.int .i64 x.w.nextid,.int .i64 x.w.g.w,.int .i64 x.w.g.h,rowV q.1 x.w.g.tiles.length,rowV q.2.1 x.w.bs.length,rowV q.2.2.1 x.w.us.length,.pointer (some ⟨q.2.2.2,0,none⟩)] 105,row nilH 5 (rowV q.1 x.w.g.tiles.length) x.w.g.tiles,row nilH 135 (rowV q.2.1 x.w.bs.length) x.w.bs,row nilH 54 (rowV q.2.2.1 x.w.us.length) x.w.us,Fld_ch q.2.2.2 x.f]) w):Sat w0 (Eng_ch g x :: R) w:=Sat.toEx (C:=fun q:(Option Nat × Nat) × (Option Nat × Nat) × (Option Nat × Nat) × Nat=>stars ((blk g [.int .i64 x.w.tick,.int .i64 x.w.players,.int .i64 x.w.nextid,.int .i64 x.w.g.w,.int .i64 x.w.g.h,rowV q.1 x.w.g.tiles.length,rowV q.2.1 x.w.bs.length,rowV q.2.2.1 x.w.us.length,.pointer (some ⟨q.2.2.2,0,none⟩)] 105) :: [row nilH 5 (rowV q.1 x.w.g.tiles.length) x.w.g.tiles,row nilH 135 (rowV q.2.1 x.w.bs.length) x.w.bs,row nilH 54 (rowV q.2.2.1 x.w.us.length) x.w.us,Fld_ch q.2.2.2 x.f])) q (Sat.toStars ((blk g [.int .i64 x.w.tick,.int .i64 x.w.players,.int .i64 x.w.nextid,.int .i64 x.w.g.w,.int .i64 x.w.g.h,rowV q.1 x.w.g.tiles.length,rowV q.2.1 x.w.bs.length,rowV q.2.2.1 x.w.us.length,.pointer (some ⟨q.2.2.2,0,none⟩)] 105) :: [row nilH 5 (rowV q.1 x.w.g.tiles.length) x.w.g.tiles,row nilH 135 (rowV q.2.1 x.w.bs.length) x.w.bs,row nilH 54 (rowV q.2.2.1 x.w.us.length) x.w.us,Fld_ch q.2.2.2 x.f]) (G:=R) h)
end Go.Proofs.YtmngdgclldkcfaaGreat
