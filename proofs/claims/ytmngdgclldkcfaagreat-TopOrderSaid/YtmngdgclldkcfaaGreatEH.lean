/-
  Walks of an engine's functions.
-/
import Derived.Test.YtmngdgclldkcfaaGreatRows
import Derived.Test.YtmngdgclldkcfaaGreatJ6
import Derived.Test.YtmngdgclldkcfaaGreatJ7
import Derived.Test.YtmngdgclldkcfaaGreatJ21
import Derived.Test.YtmngdgclldkcfaaGreatJ13
import Derived.Test.YtmngdgclldkcfaaGreatJ16
import Derived.Test.YtmngdgclldkcfaaGreatJ9
set_option linter.unusedVariables false
set_option linter.unusedSimpArgs false
set_option maxRecDepth 20000
set_option maxHeartbeats 4000000
namespace Go.Proofs.YtmngdgclldkcfaaGreat
open Go.Vg
open Enc (R)
theorem ent36:Ent Tryz.prog 36:=en Tryz.func36
theorem ent37:Ent Tryz.prog 37:=en Tryz.func37
theorem ent39:Ent Tryz.prog 39:=en Tryz.func39
theorem ent41:Ent Tryz.prog 41:=en Tryz.func41
theorem ent69:Ent Tryz.prog 69:=en Tryz.func69
theorem ent73:Ent Tryz.prog 73:=en Tryz.func73
instance fd105_0:FdC Tryz.prog 105 0 0:={}
instance fd105_1:FdC Tryz.prog 105 1 8:={}
instance sl65:SlC Tryz.prog 65 (45,1,8):={}
theorem st105:stTy Tryz.prog 105 = some ([.int .i64 0,.int .i64 0,.int .i64 0,.int .i64 0,.int .i64 0,.slice none 0 0,.slice none 0 0,.slice none 0 0,.pointer none],[(0,8),(8,1)]):=by kernel_rfl
theorem zr45:zeroOf Tryz.prog 45 = some (.int .i64 0):=by kernel_rfl
theorem cells_New_quick (w:World):Calls Tryz.prog 116 #[] w fun e w'=>∃ g:Nat,e = .returned (.pointer (some ⟨g,0,none⟩))∧Ext w w':=by
 refine te Tryz.func116 (Sat.start w) ?_
 refine au 2 ?_
 refine T.seq fun _ k2=>T.region (RS.solid Sd.makeMapL rfl rfl fun ga=>?_)
 refine RS.solid Sd.makeMapL rfl rfl fun gb=>?_
 refine rp (Pu.build (cells:=[_,_]) st264 rfl rfl) (RS.solid (Sd.box (cs:=[_,_]) rfl rfl) rfl rfl fun b4=>rA rfl (RS.nil (k2 _ _ (kq [0] ?_))))
 refine T.retTo (by with_reducible ((repeat (first | apply RetTo.seq | apply RetTo.blk)); exact RetTo.refl _)) (Cont.ret1 rfl rfl fun w' s=>?_)
 exact ⟨b4,rfl,s.ext⟩
theorem army_Open_quick (W:Wld) (w:World) {v0 v1 v2:Value} (h0:R (hpOf w) W.g.tiles [v0]) (h1:R (hpOf w) W.bs [v1]) (h2:R (hpOf w) W.us [v2]) (hu:W.us = []):Calls Tryz.prog 71 #[.agg #[.int .i64 W.tick,.int .i64 W.players,.int .i64 W.nextid,.int .i64 W.g.w,.int .i64 W.g.h,v0,v1,v2]] w fun e w'=>∃ z:Nat × Nat,e = .returned (.pointer (some ⟨z.1,0,none⟩))∧Sat w [blk z.1 [.int .i64 W.tick,.int .i64 W.players,.int .i64 W.nextid,.int .i64 W.g.w,.int .i64 W.g.h,v0,v1,v2,.slice none 0 0,.slice none 0 0,.slice none 0 0,.pointer (some ⟨z.2,0,none⟩)] 164] w':=by
 obtain ⟨p0,c0,rfl⟩:=R_form h0
 obtain ⟨p1,c1,rfl⟩:=R_form h1
 obtain ⟨p2,c2,rfl⟩:=R_form h2
 refine te Tryz.func71 (Sat.start w) ?_
 refine T.seq fun _ k1=>T.region (RS.solid (Sd.box (cs:=[_,_,_,_,_,_,_,_]) rfl rfl) rfl rfl fun b1=>rA rfl (RS.nil (k1 _ _ ?_)))
 refine T.seq fun _ k2=>dr mixed [1,3,0,3,0] ?_
 refine dq rfl (Qt.ldBA (us:=[_,_,_,_,_,_,_,_]) 0 ty52.h rfl rfl rfl rfl) (RD.solid rfl (.inl rfl) rfl rfl (Sd.call ent116 rfl fun w1 s=>(cells_New_quick w1).mono fun e w2 h=>let ⟨g,h1,h2⟩:=h; ⟨g,h1,(s.grow h2:Sat _ _ w2)⟩) (fun _=>ClE.sat _ _) (fun _ _ _=>trivial) (fun _ _ _ s=>s) fun g7=>?_)
 refine dp rfl (Pu.build (cells:=[_,_,_,_,_,_,_,_,_,_,_,_]) st164 rfl rfl) (RD.solid rfl (.inl rfl) rfl rfl (Sd.box (cs:=[_,_,_,_,_,_,_,_,_,_,_,_]) rfl rfl) (fun _=>ClE.sat _ _) (fun _ _ _=>trivial) (fun _ _ _ s=>s.drop1) fun b9=>?_)
 refine dp rfl (Pu.assign rfl) (RD.nil (k2 _ _ (kq [1,3] ?_)))
 refine T.seq fun _ k3=>au 5 ?_
 refine T.block ?_
 refine T.loopC (σ:=Unit) [(3,_),(11,_),(12,_)] (fun _=>[(13,.int .i64 0)]) (fun _=>True) (fun _=>0) () (trivial) sb sb ?_
 intro _ hI K4_ hL1
 refine kq [13,3,11,12] ?_
 refine au 2 ?_
 refine T.seq fun _ k6=>?_
 refine T.condP rfl (fun hc14=>?_) (fun hc14=>?_)
 ·rw [hu] at hc14
  exact absurd hc14 (by decide) -- end
 refine T.exitTo (by with_reducible (repeat (first | exact ExTo.here | exact ExTo.hereN | exact ExTo.deep (by repeat (first | exact NmTo.seq | apply NmTo.blk)) | apply ExTo.seq | refine ExTo.past (by decide) ?_))) (k3 _ _ (kq [3] ?_))
 refine au 3 ?_
 refine T.retTo (by with_reducible ((repeat (first | apply RetTo.seq | apply RetTo.blk)); exact RetTo.refl _)) (Cont.ret1 rfl rfl fun w' s=>?_)
 exact ⟨(b9,g7),rfl,s.pc [1]⟩
theorem army_riders_walk (a0_w:Wld) (w:World) {v0 v1 v2:Value} (h0:R (hpOf w) a0_w.g.tiles [v0]) (h1:R (hpOf w) a0_w.bs [v1]) (h2:R (hpOf w) a0_w.us [v2]) {r:Bool} (H:army_riders a0_w = some r):Calls Tryz.prog 73 #[.agg #[.int .i64 a0_w.tick,.int .i64 a0_w.players,.int .i64 a0_w.nextid,.int .i64 a0_w.g.w,.int .i64 a0_w.g.h,v0,v1,v2]] w fun e w'=>e = .returned (.bool r)∧Ext w w':=by
 have hm0:=R_max h0
 obtain ⟨p0,c0,rfl⟩:=R_form h0
 have hm1:=R_max h1
 obtain ⟨p1,c1,rfl⟩:=R_form h1
 have hm2:=R_max h2
 obtain ⟨p2,c2,rfl⟩:=R_form h2
 unfold army_riders at H
 refine te Tryz.func73 (Sat.start w) ?_
 refine T.seq fun _ k1=>T.region (RS.solid (Sd.box (cs:=[_,_,_,_,_,_,_,_]) rfl rfl) rfl rfl fun b1=>rA rfl (RS.nil (k1 _ _ ?_)))
 refine T.seq fun _ k2=>T.region (RS.solid (Sd.makeMap) rfl rfl fun b2=>rA rfl (RS.nil (k2 _ _ (kq [1,3] ?_))))
 refine T.seq fun _ k3=>au 5 ?_
 refine T.joinE (σ:=Unit) (γ:=Unit) H Ex.go [] trivial (fun _ _=>[]) (fun _ _=>Sat w [blk b1 [.int .i64 a0_w.tick,.int .i64 a0_w.players,.int .i64 a0_w.nextid,.int .i64 a0_w.g.w,.int .i64 a0_w.g.h,.slice p0 a0_w.g.tiles.length c0,.slice p1 a0_w.bs.length c1,.slice p2 a0_w.us.length c2] 52,mapCh b2 mNil]) ?_ ?_
 ·rintro ⟨⟩ ⟨⟩ H
  try dsimp only [Ex.then] at H
  refine Cont.kq [] ?_
  refine id (k3 _ _ ?_)
  refine au 2 ?_
  obtain rfl:=sj H
  refine T.rt (Cont.ret1 rfl rfl fun w' s=>?_)
  exact ⟨rfl,s.ext⟩
 intro z3 hz3 HX3 hJ3
 refine T.block ?_
 refine T.loopA (γ:=Unit) hz3 [(1,_),(3,_),(11,_),(12,_)] (fun v4 _=>[(13,.int .i64 v4)]) (fun v4 _=>Sat w [blk b1 [.int .i64 a0_w.tick,.int .i64 a0_w.players,.int .i64 a0_w.nextid,.int .i64 a0_w.g.w,.int .i64 a0_w.g.h,.slice p0 a0_w.g.tiles.length c0,.slice p1 a0_w.bs.length c1,.slice p2 a0_w.us.length c2] 52,mapCh b2 mNil]) () sb sb (fun w s=>s) ?_
 rintro v4 ⟨⟩ y5 H hd3 KL3 hL3
 try dsimp only [Ex.then] at H
 refine kq [13,1,3,11,12] ?_
 refine au 2 ?_
 refine T.seq fun _ k7=>?_
 refine T.cP H rfl (fun _ H=>nomatch H) (fun hc6 H=>?_)
 obtain rfl:=hd3 _ H
 refine T.xt (hJ3 _ _ () () HX3 trivial trivial (fun w s=>s))
theorem army_May_walk (a0_w:Wld) (w:World) {v0 v1 v2:Value} (h0:R (hpOf w) a0_w.g.tiles [v0]) (h1:R (hpOf w) a0_w.bs [v1]) (h2:R (hpOf w) a0_w.us [v2]) {r:Bool} (H:army_May a0_w = some r):Calls Tryz.prog 37 #[.agg #[.int .i64 a0_w.tick,.int .i64 a0_w.players,.int .i64 a0_w.nextid,.int .i64 a0_w.g.w,.int .i64 a0_w.g.h,v0,v1,v2]] w fun e w'=>e = .returned (.bool r)∧Ext w w':=by
 have hm0:=R_max h0
 obtain ⟨p0,c0,rfl⟩:=R_form h0
 have hm1:=R_max h1
 obtain ⟨p1,c1,rfl⟩:=R_form h1
 have hm2:=R_max h2
 obtain ⟨p2,c2,rfl⟩:=R_form h2
 unfold army_May at H
 refine te Tryz.func37 (Sat.start w) ?_
 refine T.seq fun _ k1=>T.region (RS.solid (Sd.box (cs:=[_,_,_,_,_,_,_,_]) rfl rfl) rfl rfl fun b1=>rA rfl (RS.nil (k1 _ _ ?_)))
 refine T.seq fun _ k2=>T.seq fun _ k3=>T.region (rq (Qt.ldBA (us:=[_,_,_,_,_,_,_,_]) 0 ty52.h rfl rfl rfl rfl) ?_)
 obtain ⟨x2,hx2,H⟩:=bindE H
 refine rq (Qt.call (vs:=[_]) ent69 rfl fun w s=>army_form0_walk a0_w w ((Rd.base h0) w s) ((Rd.base h1) w s) ((Rd.base h2) w s) hx2) (rp (Pu.not rfl) (RS.nil (k3 _ _ ?_)))
 refine T.cB H rfl (fun hc3 H=>?_) (fun hc3 H=>?_)
 ·refine kq [] ?_
  refine au 2 ?_
  obtain rfl:=sj H
  refine T.rt (Cont.ret1 rfl rfl fun w' s=>?_)
  exact ⟨rfl,s.ext⟩
 refine T.skip (k2 _ _ (kq [1] ?_))
 refine T.seq fun _ k5=>T.region (RS.solid (Sd.makeMap) rfl rfl fun b4=>rA rfl (RS.nil (k5 _ _ ?_)))
 refine T.seq fun _ k6=>au 5 ?_
 refine T.joinE (σ:=Unit) (γ:=Unit) H (fun s=>s) [(1,_),(3,_)] sb (fun _ _=>[]) (fun _ _=>Sat w [blk b1 [.int .i64 a0_w.tick,.int .i64 a0_w.players,.int .i64 a0_w.nextid,.int .i64 a0_w.g.w,.int .i64 a0_w.g.h,.slice p0 a0_w.g.tiles.length c0,.slice p1 a0_w.bs.length c1,.slice p2 a0_w.us.length c2] 52,mapCh b4 mNil]) ?_ ?_
 ·rintro ⟨⟩ ⟨⟩ H
  try dsimp only [Ex.then] at H
  refine Cont.kq [1,3] ?_
  refine id (k6 _ _ ?_)
  refine T.seq fun _ k8=>au 5 ?_
  refine T.joinE (σ:=Unit) (γ:=Unit) H Ex.go [(1,_)] sb (fun _ _=>[]) (fun _ _=>Sat w [blk b1 [.int .i64 a0_w.tick,.int .i64 a0_w.players,.int .i64 a0_w.nextid,.int .i64 a0_w.g.w,.int .i64 a0_w.g.h,.slice p0 a0_w.g.tiles.length c0,.slice p1 a0_w.bs.length c1,.slice p2 a0_w.us.length c2] 52,mapCh b4 mNil]) ?_ ?_
  ·rintro ⟨⟩ ⟨⟩ H
   try dsimp only [Ex.then] at H
   refine Cont.kq [1] ?_
   refine id (k8 _ _ ?_)
   refine T.seq fun _ k10=>T.region (rq (Qt.ldBA (us:=[_,_,_,_,_,_,_,_]) 0 ty52.h rfl rfl rfl rfl) ?_)
   obtain ⟨g7,H⟩:=gdE H
   refine RS.solid (Sd.call (ι:=Nat) (val:=fun g=>.pointer (some ⟨g,0,none⟩)) (S':=fun _=>Sat w [blk b1 [.int .i64 a0_w.tick,.int .i64 a0_w.players,.int .i64 a0_w.nextid,.int .i64 a0_w.g.w,.int .i64 a0_w.g.h,.slice p0 a0_w.g.tiles.length c0,.slice p1 a0_w.bs.length c1,.slice p2 a0_w.us.length c2] 52,mapCh b4 mNil]) ent71 rfl fun w1 s=>(army_Open_quick a0_w w1 (Enc.mono s.ext.hp h0) (Enc.mono s.ext.hp h1) (Enc.mono s.ext.hp h2) (List.eq_nil_of_length_eq_zero g7)).mono fun e w2 h=>let ⟨z,h1,h2⟩:=h; ⟨z.1,h1,(s.grow h2.ext:Sat _ _ w2)⟩) rfl rfl fun g8=>rA rfl (RS.nil (k10 _ _ ?_))
   refine T.seq fun _ k11=>T.seq fun _ k12=>T.region (au 4 ?_)
   refine RS.nil (k12 _ _ (kq [1,8,64,65,66] ?_))
   refine T.joinE (σ:=Unit) (γ:=Unit) H Ex.go [(1,_)] sb (fun _ _=>[]) (fun _ _=>Sat w [blk b1 [.int .i64 a0_w.tick,.int .i64 a0_w.players,.int .i64 a0_w.nextid,.int .i64 a0_w.g.w,.int .i64 a0_w.g.h,.slice p0 a0_w.g.tiles.length c0,.slice p1 a0_w.bs.length c1,.slice p2 a0_w.us.length c2] 52,mapCh b4 mNil]) ?_ ?_
   ·rintro ⟨⟩ ⟨⟩ H
    try dsimp only [Ex.then] at H
    refine Cont.kq [1] ?_
    refine id (k11 _ _ ?_)
    refine T.seq fun _ k13=>T.region (rq (Qt.ldBA (us:=[_,_,_,_,_,_,_,_]) 0 ty52.h rfl rfl rfl rfl) ?_)
    obtain ⟨x10,hx10,H⟩:=bindE H
    refine rq (Qt.call (vs:=[_]) ent73 rfl fun w s=>army_riders_walk a0_w w ((Rd.base h0) w s) ((Rd.base h1) w s) ((Rd.base h2) w s) hx10) (rA rfl (RS.nil (k13 _ _ (kq [2] ?_))))
    obtain rfl:=sj H
    refine T.rt (Cont.ret1 rfl rfl fun w' s=>?_)
    exact ⟨rfl,s.ext⟩
   intro z9 hz9 HX9 hJ9
   refine T.block ?_
   refine T.loopA (γ:=Unit) hz9 [(1,_),(8,_),(64,_),(65,_)] (fun v11 _=>[(66,.int .i64 v11)]) (fun v11 _=>Sat w [blk b1 [.int .i64 a0_w.tick,.int .i64 a0_w.players,.int .i64 a0_w.nextid,.int .i64 a0_w.g.w,.int .i64 a0_w.g.h,.slice p0 a0_w.g.tiles.length c0,.slice p1 a0_w.bs.length c1,.slice p2 a0_w.us.length c2] 52,mapCh b4 mNil]) () sb sb (fun w s=>s) ?_
   rintro v11 ⟨⟩ y12 H hd9 KL9 hL9
   try dsimp only [Ex.then] at H
   refine kq [66,1,8,64,65] ?_
   refine au 2 ?_
   refine T.seq fun _ k15=>?_
   refine T.cP H rfl (fun _ H=>nomatch H) (fun hc13 H=>?_)
   obtain rfl:=hd9 _ H
   refine T.xt (hJ9 _ _ () () HX9 sb trivial (fun w s=>s))
  intro z6 hz6 HX6 hJ6
  refine T.block ?_
  refine T.loopA (γ:=Unit) hz6 [(1,_),(3,_),(27,_),(28,_)] (fun v14 _=>[(29,.int .i64 v14)]) (fun v14 _=>Sat w [blk b1 [.int .i64 a0_w.tick,.int .i64 a0_w.players,.int .i64 a0_w.nextid,.int .i64 a0_w.g.w,.int .i64 a0_w.g.h,.slice p0 a0_w.g.tiles.length c0,.slice p1 a0_w.bs.length c1,.slice p2 a0_w.us.length c2] 52,mapCh b4 mNil]) () sb sb (fun w s=>s) ?_
  rintro v14 ⟨⟩ y15 H hd6 KL6 hL6
  try dsimp only [Ex.then] at H
  refine kq [29,1,3,27,28] ?_
  refine au 2 ?_
  refine T.seq fun _ k19=>?_
  refine T.cP H rfl (fun _ H=>nomatch H) (fun hc16 H=>?_)
  obtain rfl:=hd6 _ H
  refine T.xt (hJ6 _ _ () () HX6 sb trivial (fun w s=>s))
 intro z5 hz5 HX5 hJ5
 refine T.block ?_
 refine T.loopA (γ:=Unit) hz5 [(1,_),(3,_),(16,_),(17,_)] (fun v17 _=>[(18,.int .i64 v17)]) (fun v17 _=>Sat w [blk b1 [.int .i64 a0_w.tick,.int .i64 a0_w.players,.int .i64 a0_w.nextid,.int .i64 a0_w.g.w,.int .i64 a0_w.g.h,.slice p0 a0_w.g.tiles.length c0,.slice p1 a0_w.bs.length c1,.slice p2 a0_w.us.length c2] 52,mapCh b4 mNil]) () sb sb (fun w s=>s) ?_
 rintro v17 ⟨⟩ y18 H hd5 KL5 hL5
 try dsimp only [Ex.then] at H
 refine kq [18,1,3,16,17] ?_
 refine au 2 ?_
 refine T.seq fun _ k23=>?_
 refine T.cP H rfl (fun _ H=>nomatch H) (fun hc19 H=>?_)
 obtain rfl:=hd5 _ H
 refine T.xt (hJ5 _ _ () () HX5 sb trivial (fun w s=>s))
theorem eng_Open_walk (a0_w:Wld) (a1_room:Int) (w:World) {v0 v1 v2:Value} (h0:R (hpOf w) a0_w.g.tiles [v0]) (h1:R (hpOf w) a0_w.bs [v1]) (h2:R (hpOf w) a0_w.us [v2]) {r:Option Egn × Int} (H:eng_Open a0_w a1_room = some r):Calls Tryz.prog 17 #[.agg #[.int .i64 a0_w.tick,.int .i64 a0_w.players,.int .i64 a0_w.nextid,.int .i64 a0_w.g.w,.int .i64 a0_w.g.h,v0,v1,v2],.int .i64 a1_room] w fun e w'=>∃ g1:Nat,e = .returned (.tuple #[.pointer (optA g1 r.1),.int .i64 r.2])∧Sat w [optCh Eng_ch g1 r.1] w':=by
 have hm0:=R_max h0
 obtain ⟨p0,c0,rfl⟩:=R_form h0
 have hm1:=R_max h1
 obtain ⟨p1,c1,rfl⟩:=R_form h1
 have hm2:=R_max h2
 obtain ⟨p2,c2,rfl⟩:=R_form h2
 unfold eng_Open at H
 refine te Tryz.func17 (Sat.start w) ?_
 refine T.seq fun _ k1=>T.region (RS.solid (Sd.box (cs:=[_,_,_,_,_,_,_,_]) rfl rfl) rfl rfl fun b1=>au 2 ?_)
 refine RS.nil (k1 _ _ (kq [1,2] ?_))
 refine T.seq fun _ k2=>T.region (rM rfl ?_)
 obtain ⟨x2,hx2,H⟩:=bindE H
 obtain ⟨o3,o4⟩:=x2
 dsimp only at H
 refine RS.solid (Sd.callN (vs:=[_]) ent36 rfl (fun w s=>fields_New_walk a1_room w  hx2)) rfl rfl fun g5=>au 5 ?_
 refine RS.nil (k2 _ _ (kq [2,6,7] ?_))
 refine T.seq fun _ k3=>T.seq fun _ k4=>T.region (au 3 ?_)
 refine RS.joinB H 4 19 (fun b8=>.bool b8) [(2,_),(6,_)] sb ?_ ?_
 ·intro b8 H
  refine RS.nil (k4 _ _ ?_)
  refine T.cB H rfl (fun hc9 H=>?_) (fun hc9 H=>?_)
  ·refine kq [] ?_
   refine au 3 ?_
   obtain rfl:=sj H
   refine T.rt (Cont.ret2 rfl rfl rfl fun w' s=>?_)
   exact ⟨0,rfl,(s.deadRow).pick [2] (by decide) rfl⟩
  refine T.skip (k3 _ _ ?_)
  refine T.seq fun _ k6=>T.region (rq (Qt.ldBA (us:=[_,_,_,_,_,_,_,_]) 0 ty52.h rfl rfl rfl rfl) ?_)
  obtain ⟨x10,hx10,H⟩:=bindE H
  refine RS.solid (Sd.callN (vs:=[_]) ent38 rfl (fun w s=>army_Own_walk a0_w w ((Rd.base h0) w s) ((Rd.base h1) w s) ((Rd.base h2) w s) hx10)) rfl rfl fun ⟨q11,q12,q13⟩=>?_
  refine rM rfl ?_
  obtain ⟨z14,hz14,HZz14⟩:=bindE H
  subst hz14
  have H:=HZz14
  refine RS.weakS (fun w s=>s.optSome (C:=Fld_ch) 1 rfl) ?_
  refine rp (Pu.build (cells:=[_,_,_,_,_,_,_,_,_]) st105 rfl rfl) (RS.solid (Sd.box (cs:=[_,_,_,_,_,_,_,_,_]) rfl rfl) rfl rfl fun b15=>au 2 ?_)
  refine RS.nil (k6 _ _ (kq [4,5] ?_))
  refine T.wk (fun w s=>((Sat.sP [0] [5,2,3,4,1] s (Eng_shut (x:=(⟨x10,z14⟩:Egn)) ⟨q11,q12,q13,g5⟩))).pickP [1,0]) ?_
  obtain rfl:=sj H
  refine T.rt (Cont.ret2 rfl rfl rfl fun w' s=>?_)
  exact ⟨b15,rfl,s.pc [1]⟩
 intro z16 H hJ7
 refine RS.splitP 15 rfl (fun hc6=>?_) (fun hc6=>?_)
 ·have H:=ifT hc6 H
  refine au 4 ?_
  obtain rfl:=sj H
  exact hJ7 _ _ sb (fun w s=>s)
 have H:=ifF hc6 H
 refine rq (Qt.ldBA (us:=[_,_,_,_,_,_,_,_]) 0 ty52.h rfl rfl rfl rfl) ?_
 obtain ⟨x17,hx17,H⟩:=bindE H
 refine rq (Qt.call (vs:=[_]) ent37 rfl fun w s=>army_May_walk a0_w w ((Rd.base h0) w s) ((Rd.base h1) w s) ((Rd.base h2) w s) hx17) (au 2 ?_)
 obtain rfl:=sj H
 exact hJ7 _ _ sb (fun w s=>s)
theorem eng_World_walk {w0:World} {F:Ch} (g0:Nat) (a0_x:Egn) {r:Wld} (H:eng_World a0_x = some r) (w:World) (s:Sat w0 [Eng_ch g0 a0_x,F] w):Calls Tryz.prog 19 #[.pointer (some ⟨g0,0,none⟩)] w fun e w'=>∃ g:(Option Nat × Nat) × (Option Nat × Nat) × (Option Nat × Nat),e = .returned (.agg #[.int .i64 r.tick,.int .i64 r.players,.int .i64 r.nextid,.int .i64 r.g.w,.int .i64 r.g.h,rowV g.1 r.g.tiles.length,rowV g.2.1 r.bs.length,rowV g.2.2 r.us.length])∧Sat w0 ([Eng_ch g0 a0_x,F] ++ [row nilH 5 (rowV g.1 r.g.tiles.length) r.g.tiles,row nilH 135 (rowV g.2.1 r.bs.length) r.bs,row nilH 54 (rowV g.2.2 r.us.length) r.us]) w':=by
 unfold eng_World at H
 refine te Tryz.func19 s ?_
 refine T.seq fun _ k1=>T.region (RS.solid (Sd.alloc zr52 rfl) rfl rfl fun b1=>RS.nil (k1 _ _ ?_))
 refine T.seq fun _ k2=>T.region (au 2 ?_)
 refine RS.ex (fun w s=>Eng_open 0 rfl s) ?_
 rintro ⟨qt2,qb3,qu4,gf5⟩
 refine au 2 ?_
 obtain ⟨x6,hx6,H⟩:=bindE H
 refine RS.solid (Sd.callN (vs:=[_]) ent38 rfl (fun w s=>army_Own_walk a0_x.w w ((Rd.ofRowN 3 rfl) w s) ((Rd.ofRowN 4 rfl) w s) ((Rd.ofRowN 5 rfl) w s) hx6)) rfl rfl fun ⟨q7,q8,q9⟩=>?_
 refine RS.solid (Sd.stB (cs':=[_,_,_,_,_,_,_,_]) 2 ty52.h rfl rfl rfl rfl rfl rfl rfl rfl) rfl rfl fun _=>RS.nil (k2 _ _ (kq [2] ?_))
 refine T.wk (fun w s=>(Sat.sP [1,2,7,8,9] [0,3,4,5,6] s (Eng_shut (x:=a0_x) ⟨qt2,qb3,qu4,gf5⟩))) ?_
 obtain rfl:=sj H
 refine T.rt (Cont.retC 2 rfl ty52.h rfl rfl rfl fun w' s=>?_)
 exact ⟨⟨q7,q8,q9⟩,rfl,s.pc [0,1,3,4,5]⟩
theorem eng_Step_walk {w0:World} {F:Ch} (g0:Nat) (a0_x:Egn) (a1_l:List Cmd) {v0:Value} (B0:Hp) (hB0:Held (Sat w0 [F]) B0) (h0:R B0 a1_l [v0]) {r:List Int × Int × Egn} (H:eng_Step a0_x a1_l = some r) (w:World) (s:Sat w0 [Eng_ch g0 a0_x,F] w):Calls Tryz.prog 18 #[.pointer (some ⟨g0,0,none⟩),v0] w fun e w'=>∃ q1:(Option Nat × Nat),e = .returned (.tuple #[rowV q1 r.1.length,.int .i64 r.2.1])∧Sat w0 ([Eng_ch g0 r.2.2,F] ++ [row nilH 45 (rowV q1 r.1.length) r.1]) w':=by
 have hm0:=R_max h0
 obtain ⟨p0,c0,rfl⟩:=R_form h0
 unfold eng_Step at H
 refine te Tryz.func18 s ?_
 refine au 3 ?_
 refine T.seq fun _ k2=>T.block (T.seq fun _ k3=>T.region (au 2 ?_))
 refine RS.ex (fun w s=>Eng_open 0 rfl s) ?_
 rintro ⟨qt1,qb2,qu3,gf4⟩
 refine au 5 ?_
 refine RS.nil (k3 _ _ ?_)
 refine T.cP H rfl (fun hc5 H=>?_) (fun hc5 H=>?_)
 ·refine kq [] ?_
  refine au 3 ?_
  refine T.wk (fun w s=>(Sat.sP [1] [0,2,3,4,5] s (Eng_shut (x:=a0_x) ⟨qt1,qb2,qu3,gf4⟩))) ?_
  obtain rfl:=sj H
  refine T.rt (Cont.ret2 rfl rfl rfl fun w' s=>?_)
  exact ⟨(none,0),rfl,(s.nilRow (α:=Int) 45).pick [0,1,2] (by decide) rfl⟩
 refine kq [0,1] ?_
 refine au 5 ?_
 refine T.cP H rfl (fun hc6 H=>?_) (fun hc6 H=>?_)
 ·refine kq [] ?_
  refine au 3 ?_
  refine T.wk (fun w s=>(Sat.sP [1] [0,2,3,4,5] s (Eng_shut (x:=a0_x) ⟨qt1,qb2,qu3,gf4⟩))) ?_
  obtain rfl:=sj H
  refine T.rt (Cont.ret2 rfl rfl rfl fun w' s=>?_)
  exact ⟨(none,0),rfl,(s.nilRow (α:=Int) 45).pick [0,1,2] (by decide) rfl⟩
 refine T.skip (k2 _ _ (kq [0,1] ?_))
 refine au 2 ?_
 refine T.seq fun _ k8=>au 4 ?_
 refine T.wk (fun w s=>(Sat.sP [1] [0,2,3,4,5] s (Eng_shut (x:=a0_x) ⟨qt1,qb2,qu3,gf4⟩))) ?_
 refine T.joinE (σ:=Egn × List Int) (γ:=(Option Nat × Nat)) H (fun s=>s) [(0,_)] sb (fun (v8,v9) q10=>[(6,rowV q10 v9.length)]) (fun (v8,v9) q10=>Sat w0 [Eng_ch g0 v8,F,row nilH 45 (rowV q10 v9.length) v9]) ?_ ?_
 ·rintro ⟨v8,v9⟩ q10 H
  try dsimp only [Ex.then] at H
  refine Cont.kq [6,0] ?_
  refine id (k8 _ _ ?_)
  refine T.seq fun _ k10=>?_
  refine T.ex (fun w s=>Eng_open 0 rfl s) ?_
  rintro ⟨qt11,qb12,qu13,gf14⟩
  refine nz ?_
  refine T.drawn (fun _=>True) [(0,.pu),(1,.pu),(2,.pu),(3,.pu),(4,.rd),(6,.pu),(7,.pu),(8,.pu),(9,.rd),(5,.so),(10,.br),(11,.pu),(12,.pu),(13,.br)] mixed (ClE.sat _ _) (by kernel_rfl) ?_
  refine au 9 ?_
  obtain ⟨x15,hx15,H⟩:=bindE H
  refine RD.solid rfl (.inl rfl) rfl rfl (Sd.callN (vs:=[_]) ent38 rfl (fun w s=>army_Own_walk v8.w w ((Rd.ofRowN 3 rfl) w s) ((Rd.ofRowN 4 rfl) w s) ((Rd.ofRowN 5 rfl) w s) hx15)) (fun _=>ClE.sat _ _) (fun _ _ _=>trivial) (fun _ _ _ s=>s.drop1) fun ⟨q16,q17,q18⟩=>?_
  obtain ⟨x19,hx19,H⟩:=bindE H
  refine RD.solid rfl (.inr rfl) rfl rfl (Sd.post (S2:=fun z:(Option Nat × Nat) × (Option Nat × Nat) × (Option Nat × Nat)=>Sat w0 [blk g0 [.int .i64 v8.w.tick,.int .i64 v8.w.players,.int .i64 v8.w.nextid,.int .i64 v8.w.g.w,.int .i64 v8.w.g.h,rowV qt11 v8.w.g.tiles.length,rowV qb12 v8.w.bs.length,rowV qu13 v8.w.us.length,.pointer (some ⟨gf14,0,none⟩)] 105,F,row nilH 45 (rowV q10 v9.length) v9,row nilH 5 (rowV qt11 v8.w.g.tiles.length) v8.w.g.tiles,row nilH 135 (rowV qb12 v8.w.bs.length) v8.w.bs,row nilH 54 (rowV qu13 v8.w.us.length) v8.w.us,Fld_ch gf14 x19.2,row nilH 5 (rowV z.1 x19.1.g.tiles.length) x19.1.g.tiles,row nilH 135 (rowV z.2.1 x19.1.bs.length) x19.1.bs,row nilH 54 (rowV z.2.2 x19.1.us.length) x19.1.us]) (Sd.call ent41 rfl fun w s=>callFr (A:=[_,_,_,_]) (B:=[blk g0 [.int .i64 v8.w.tick,.int .i64 v8.w.players,.int .i64 v8.w.nextid,.int .i64 v8.w.g.w,.int .i64 v8.w.g.h,rowV qt11 v8.w.g.tiles.length,rowV qb12 v8.w.bs.length,rowV qu13 v8.w.us.length,.pointer (some ⟨gf14,0,none⟩)] 105,F,row nilH 45 (rowV q10 v9.length) v9,row nilH 5 (rowV qt11 v8.w.g.tiles.length) v8.w.g.tiles,row nilH 135 (rowV qb12 v8.w.bs.length) v8.w.bs,row nilH 54 (rowV qu13 v8.w.us.length) v8.w.us]) (fun w s=>move_Go_walk x15 v8.f gf14 hx19 w s) (s.pc [7,8,9,6,0,1,2,3,4,5])) (fun z w s=>s.pc [4,5,6,7,8,9,3,0,1,2])) (fun _=>ClE.sat _ _) (fun _ _ _=>trivial) (fun h=>nomatch h) fun ⟨q20,q21,q22⟩=>?_
  refine au 3 ?_
  refine RD.nil (k10 _ _ (kq [0,6] ?_))
  refine T.seq fun _ k11=>nz ?_
  refine T.region (au 5 ?_)
  obtain ⟨g23,H⟩:=gdE H
  refine rp (Pu.addS rfl rfl g23) (au 4 ?_)
  refine RS.nil (k11 _ _ (kq [6] ?_))
  refine au 4 ?_
  refine T.wk (fun w s=>(Sat.sP [1,2,3,4,5] [0,7,8,9,6] s (Eng_shut (x:=(⟨(⟨(x19.1.tick + 1),x19.1.players,x19.1.nextid,x19.1.g,x19.1.bs,x19.1.us⟩:Wld),x19.2⟩:Egn)) ⟨q20,q21,q22,gf14⟩))) ?_
  obtain rfl:=sj H
  refine T.rt (Cont.ret2 rfl rfl rfl fun w' s=>?_)
  exact ⟨q10,rfl,s.pc [0,1,2]⟩
 intro z7 hz7 HX7 hJ7
 refine T.block ?_
 refine T.loopA (γ:=(Option Nat × Nat)) hz7 [(0,_),(22,_),(23,_)] (fun (l24,v26,v27) q25=>[(6,rowV q25 l24.length),(24,.int .i64 v26)]) (fun (l24,v26,v27) q25=>Sat w0 [Eng_ch g0 v27,F,row nilH 45 (rowV q25 l24.length) l24]) (none,0) sb sb (fun w s=>(s.nilRow (α:=Int) 45).pick [0,1,2] (by decide) rfl) ?_
 rintro ⟨l24,v26,v27⟩ q25 y28 H hd7 KL7 hL7
 try dsimp only [Ex.then] at H
 refine kq [6,24,0,22,23] ?_
 refine au 2 ?_
 refine T.seq fun _ k14=>?_
 refine T.cP H rfl (fun hc29 H=>?_) (fun hc29 H=>?_)
 ·refine T.skip (k14 _ _ ?_)
  refine T.seq fun _ k15=>T.block (T.seq fun _ k16=>T.region ?_)
  obtain ⟨g30,H⟩:=gdE H
  obtain ⟨bl31,ol32,rfl⟩:=R_ptr h0 (ne_of_pos (pos_of g30))
  refine rp (Pu.indexSl sl29.h rfl rfl g30) ?_
  obtain ⟨c33,hc34,ha35⟩:=R_el (α:=Cmd) h0 g30
  obtain ⟨u36,rfl,hu36⟩:=hc34
  obtain ⟨p37,cc38,rfl⟩:=R_form hu36
  refine rq (Qt.ldZ (cs:=[_,_,_,_,_,_,_,_,_,_]) ty37.h rfl ha35 (Held.ofFrame 1 rfl hB0) rfl) (RS.solid (Sd.alloc zr37 rfl) rfl rfl fun b39=>RS.solid (Sd.stB (cs':=[_,_,_,_,_,_,_,_,_,_]) 3 ty37.h rfl rfl rfl rfl rfl rfl rfl rfl) rfl rfl fun _=>RS.nil (k16 _ _ (kq [0,6,8,22,23,24] ?_)))
  refine T.ex (fun w s=>Eng_open 0 rfl s) ?_
  rintro ⟨qt41,qb42,qu43,gf44⟩
  refine nz ?_
  refine T.joinA (σ:=Int × Int × Int × Int × Int × Int × Fld × List UInt8 × List Bld × List Unt) (γ:=Nat × (Option Nat × Nat) × (Option Nat × Nat) × (Option Nat × Nat)) H (fun s=>s) [(0,_),(6,_),(22,_),(23,_),(24,_)] sb (fun (v46,v47,v48,v49,v50,v51,v52,v53,v55,v57) (q45,q54,q56,q58)=>[(9,.pointer (some ⟨q45,0,none⟩)),(10,.int .i64 v51)]) (fun (v46,v47,v48,v49,v50,v51,v52,v53,v55,v57) (q45,q54,q56,q58)=>Sat w0 [blk g0 [.int .i64 v27.w.tick,.int .i64 v27.w.players,.int .i64 v27.w.nextid,.int .i64 v27.w.g.w,.int .i64 v27.w.g.h,rowV qt41 v27.w.g.tiles.length,rowV qb42 v27.w.bs.length,rowV qu43 v27.w.us.length,.pointer (some ⟨gf44,0,none⟩)] 105,F,row nilH 45 (rowV q25 l24.length) l24,blk b39 [.int .i64 ((gi a1_l v26).player),.int .i64 ((gi a1_l v26).seq),.int .i64 ((gi a1_l v26).kind),.int .i64 ((gi a1_l v26).n),.slice p37 ((gi a1_l v26).units).length cc38,.int .i64 ((gi a1_l v26).tile),.int .i64 ((gi a1_l v26).w),.int .i64 ((gi a1_l v26).h),.int .i64 (((gi a1_l v26).pos).x),.int .i64 (((gi a1_l v26).pos).y)] 37,row nilH 5 (rowV q54 v53.length) v53,row nilH 135 (rowV q56 v55.length) v55,row nilH 54 (rowV q58 v57.length) v57,Fld_ch gf44 v52,blk q45 [.int .i64 v46,.int .i64 v47,.int .i64 v48,.int .i64 v49,.int .i64 v50,rowV q54 v53.length,rowV q56 v55.length,rowV q58 v57.length] 52]) ?_ ?_
  ·rintro ⟨v46,v47,v48,v49,v50,v51,v52,v53,v55,v57⟩ ⟨q45,q54,q56,q58⟩ H
   try dsimp only [Ex.then] at H
   refine kq [9,10,0,6,22,23,24] ?_
   refine nz ?_
   refine drS mixed [1,3,4,5,6,7,8] [0,2,0,0,3,4,0,0,4,0] ?_
   refine au 4 ?_
   refine RD.solid rfl (.inl rfl) rfl rfl (Sd.litS (cs:=[_]) sl65.h zr45 rfl rfl rfl rfl rfl) (fun _=>ClE.sat _ _) (fun _ w s=>s.pc [1,3,4,5,6,7,8]) (fun _ _ _ s=>s.drop1) fun b59=>?_
   obtain ⟨g61,H⟩:=gdE H
   refine RD.solid rfl (.inr rfl) rfl rfl (Sd.app1c (α:=Int) 2 9 v51 rfl rfl (nilH_lt _) sl65.h zr45 rfl rfl rfl rfl g61 (by decide)) (fun _=>ClE.sat _ _) (fun _ w s=>s.pc [1,3,4,5,6,7,8]) (fun h=>nomatch h) fun q60=>?_
   refine au 4 ?_
   refine RD.nil (k15 _ _ (kq [0,6,22,23,24] ?_))
   refine nz ?_
   refine T.region ?_
   obtain ⟨g62,H⟩:=gdE H
   refine rp (Pu.addS rfl rfl g62) (rM rfl (RS.nil ?_))
   refine Cont.wk (fun w s=>(Sat.sP [1,2,3,8,9] [0,4,5,6,7] s (Eng_shut (x:=(⟨(⟨v46,v47,v48,(⟨v49,v50,v53⟩:Grd),v55,v57⟩:Wld),v52⟩:Egn)) ⟨q54,q56,q58,gf44⟩))) ?_
   refine id (hL7 _ _ ((l24 ++ [v51]),(v26 + 1),(⟨(⟨v46,v47,v48,(⟨v49,v50,v53⟩:Grd),v55,v57⟩:Wld),v52⟩:Egn)) q60 H sb sb (fun w s=>s.pc [0,1,2]))
  intro z40 H HX40 K17 hJ40
  refine nz ?_
  refine T.drawnT (fun _=>True) [(0,.pu),(1,.pu),(2,.pu),(3,.rd),(4,.rd),(5,.pu),(6,.pu),(7,.pu),(8,.rd),(9,.pu),(10,.br),(11,.pu),(12,.pu),(13,.pu),(14,.so),(15,.br),(16,.pu)] (.st 0 .pu (.st 1 .pu (.st 2 .pu (.st 3 .rd (.st 4 .rd (.st 5 .pu (.st 6 .pu (.st 7 .pu (.st 8 .rd (.st 9 .pu (.two 10 .br (.st 11 .pu (.st 12 .pu (.st 13 .pu (.st 14 .so (.st 15 .br (.st 16 .pu .nil)))))) 14 .so (.st 10 .br (.st 11 .pu (.st 12 .pu (.st 13 .pu (.st 15 .br (.st 16 .pu .nil))))))))))))))))) mixed (ClE.sat _ _) (by kernel_rfl) ?_
  refine RT.p (fun _ _=>trivial) rfl (Pu.move rfl) rfl rfl (RT.p (fun _ _=>trivial) rfl (Pu.nilCheck rfl) rfl rfl (RT.p (fun _ _=>trivial) rfl (Pu.fieldAddr fd105_0.h rfl) rfl rfl (RT.q (fun _ _=>trivial) rfl (Qt.ldBA (us:=[_,_,_,_,_,_,_,_]) 0 ty52.h rfl rfl rfl rfl) rfl rfl (RT.q (fun _ _=>trivial) rfl (Qt.ldBA (us:=[_,_,_,_,_,_,_,_,_,_]) 3 ty37.h rfl rfl rfl rfl) rfl rfl (RT.p (fun _ _=>trivial) rfl (Pu.move rfl) rfl rfl (RT.p (fun _ _=>trivial) rfl (Pu.nilCheck rfl) rfl rfl (RT.p (fun _ _=>trivial) rfl (Pu.fieldAddr fd105_1.h rfl) rfl rfl (RT.q (fun _ _=>trivial) rfl (Qt.ldB 0 ty100.h rfl rfl rfl) rfl rfl (RT.p (fun _ _=>trivial) rfl (Pu.makeMth rfl) rfl rfl ?_)))))))))
  obtain ⟨x63,hx63,H⟩:=bindE H
  refine RT.two ?_ ?_
  ·refine RT1.solid rfl (.inr rfl) rfl rfl (Sd.post (S2:=fun z:(Option Nat × Nat) × (Option Nat × Nat) × (Option Nat × Nat)=>Sat w0 [blk g0 [.int .i64 v27.w.tick,.int .i64 v27.w.players,.int .i64 v27.w.nextid,.int .i64 v27.w.g.w,.int .i64 v27.w.g.h,rowV qt41 v27.w.g.tiles.length,rowV qb42 v27.w.bs.length,rowV qu43 v27.w.us.length,.pointer (some ⟨gf44,0,none⟩)] 105,F,row nilH 45 (rowV q25 l24.length) l24,blk b39 [.int .i64 ((gi a1_l v26).player),.int .i64 ((gi a1_l v26).seq),.int .i64 ((gi a1_l v26).kind),.int .i64 ((gi a1_l v26).n),.slice p37 ((gi a1_l v26).units).length cc38,.int .i64 ((gi a1_l v26).tile),.int .i64 ((gi a1_l v26).w),.int .i64 ((gi a1_l v26).h),.int .i64 (((gi a1_l v26).pos).x),.int .i64 (((gi a1_l v26).pos).y)] 37,row nilH 5 (rowV z.1 x63.1.1.g.tiles.length) x63.1.1.g.tiles,row nilH 135 (rowV z.2.1 x63.1.1.bs.length) x63.1.1.bs,row nilH 54 (rowV z.2.2 x63.1.1.us.length) x63.1.1.us,Fld_ch gf44 x63.2]) (Sd.call ent39 rfl fun w s=>callFr (A:=[_,_,_,_]) (B:=[blk g0 [.int .i64 v27.w.tick,.int .i64 v27.w.players,.int .i64 v27.w.nextid,.int .i64 v27.w.g.w,.int .i64 v27.w.g.h,rowV qt41 v27.w.g.tiles.length,rowV qb42 v27.w.bs.length,rowV qu43 v27.w.us.length,.pointer (some ⟨gf44,0,none⟩)] 105,F,row nilH 45 (rowV q25 l24.length) l24,blk b39 [.int .i64 ((gi a1_l v26).player),.int .i64 ((gi a1_l v26).seq),.int .i64 ((gi a1_l v26).kind),.int .i64 ((gi a1_l v26).n),.slice p37 ((gi a1_l v26).units).length cc38,.int .i64 ((gi a1_l v26).tile),.int .i64 ((gi a1_l v26).w),.int .i64 ((gi a1_l v26).h),.int .i64 (((gi a1_l v26).pos).x),.int .i64 (((gi a1_l v26).pos).y)] 37]) (fun w s=>apply_Do_walk v27.w (gi a1_l v26) v27.f gf44 (rdStars 1 rfl (Rd.held hB0 hu36)) hx63 w s) (s.pc [4,5,6,7,0,1,2,3])) (fun z w s=>s.pc [4,5,6,7,0,1,2,3])) (fun _=>ClE.sat _ _) (fun _ _ _=>trivial) (fun h=>nomatch h) fun ⟨q263,q264,q265⟩=>?_
   refine RT.p (fun _ _=>trivial) rfl (Pu.move rfl) rfl rfl (RT.p (fun _ _=>trivial) rfl (Pu.extract rfl rfl) rfl rfl (RT.p (fun _ _=>trivial) rfl (Pu.extract rfl rfl) rfl rfl (RT.solid rfl (.inl rfl) rfl rfl (Sd.alloc zr52 rfl) (fun _=>ClE.sat _ _) (fun _ _ _=>trivial) (fun _ _ _ s=>s.drop1) fun b266=>?_)))
   refine RT.solid rfl (.inr rfl) rfl rfl (Sd.stB (cs':=[_,_,_,_,_,_,_,_]) 8 ty52.h rfl rfl rfl rfl rfl rfl rfl rfl) (fun _=>ClE.sat _ _) (fun _ _ _=>trivial) (fun h=>nomatch h) fun _=>?_
   refine RT.p (fun _ _=>trivial) rfl (Pu.assign rfl) rfl rfl ?_
   obtain rfl:=sj H
   refine RT.nil (hJ40 _ _ (x63.1.1.tick,x63.1.1.players,x63.1.1.nextid,x63.1.1.g.w,x63.1.1.g.h,x63.1.2,x63.2,x63.1.1.g.tiles,x63.1.1.bs,x63.1.1.us) (b266,q263,q264,q265) HX40 sb sb (fun w s=>s))
  refine RT1.solid rfl (.inl rfl) rfl rfl (Sd.alloc zr52 rfl) (fun _=>ClE.sat _ _) (fun _ _ _=>trivial) (fun _ _ _ s=>s.drop1) fun b267=>?_
  refine RT.solid rfl (.inr rfl) rfl rfl (Sd.post (S2:=fun z:(Option Nat × Nat) × (Option Nat × Nat) × (Option Nat × Nat)=>Sat w0 [blk g0 [.int .i64 v27.w.tick,.int .i64 v27.w.players,.int .i64 v27.w.nextid,.int .i64 v27.w.g.w,.int .i64 v27.w.g.h,rowV qt41 v27.w.g.tiles.length,rowV qb42 v27.w.bs.length,rowV qu43 v27.w.us.length,.pointer (some ⟨gf44,0,none⟩)] 105,F,row nilH 45 (rowV q25 l24.length) l24,blk b39 [.int .i64 ((gi a1_l v26).player),.int .i64 ((gi a1_l v26).seq),.int .i64 ((gi a1_l v26).kind),.int .i64 ((gi a1_l v26).n),.slice p37 ((gi a1_l v26).units).length cc38,.int .i64 ((gi a1_l v26).tile),.int .i64 ((gi a1_l v26).w),.int .i64 ((gi a1_l v26).h),.int .i64 (((gi a1_l v26).pos).x),.int .i64 (((gi a1_l v26).pos).y)] 37,row nilH 5 (rowV z.1 x63.1.1.g.tiles.length) x63.1.1.g.tiles,row nilH 135 (rowV z.2.1 x63.1.1.bs.length) x63.1.1.bs,row nilH 54 (rowV z.2.2 x63.1.1.us.length) x63.1.1.us,Fld_ch gf44 x63.2,blk b267 [.int .i64 0,.int .i64 0,.int .i64 0,.int .i64 0,.int .i64 0,.slice none 0 0,.slice none 0 0,.slice none 0 0] 52]) (Sd.call ent39 rfl fun w s=>callFr (A:=[_,_,_,_]) (B:=[blk g0 [.int .i64 v27.w.tick,.int .i64 v27.w.players,.int .i64 v27.w.nextid,.int .i64 v27.w.g.w,.int .i64 v27.w.g.h,rowV qt41 v27.w.g.tiles.length,rowV qb42 v27.w.bs.length,rowV qu43 v27.w.us.length,.pointer (some ⟨gf44,0,none⟩)] 105,F,row nilH 45 (rowV q25 l24.length) l24,blk b39 [.int .i64 ((gi a1_l v26).player),.int .i64 ((gi a1_l v26).seq),.int .i64 ((gi a1_l v26).kind),.int .i64 ((gi a1_l v26).n),.slice p37 ((gi a1_l v26).units).length cc38,.int .i64 ((gi a1_l v26).tile),.int .i64 ((gi a1_l v26).w),.int .i64 ((gi a1_l v26).h),.int .i64 (((gi a1_l v26).pos).x),.int .i64 (((gi a1_l v26).pos).y)] 37,blk b267 [.int .i64 0,.int .i64 0,.int .i64 0,.int .i64 0,.int .i64 0,.slice none 0 0,.slice none 0 0,.slice none 0 0] 52]) (fun w s=>apply_Do_walk v27.w (gi a1_l v26) v27.f gf44 (rdStars 1 rfl (Rd.held hB0 hu36)) hx63 w s) (s.pc [4,5,6,7,0,1,2,3,8])) (fun z w s=>s.pc [4,5,6,7,0,1,2,3,8])) (fun _=>ClE.sat _ _) (fun _ _ _=>trivial) (fun h=>nomatch h) fun ⟨q268,q269,q270⟩=>?_
  refine RT.p (fun _ _=>trivial) rfl (Pu.move rfl) rfl rfl (RT.p (fun _ _=>trivial) rfl (Pu.extract rfl rfl) rfl rfl (RT.p (fun _ _=>trivial) rfl (Pu.extract rfl rfl) rfl rfl (RT.solid rfl (.inr rfl) rfl rfl (Sd.stB (cs':=[_,_,_,_,_,_,_,_]) 8 ty52.h rfl rfl rfl rfl rfl rfl rfl rfl) (fun _=>ClE.sat _ _) (fun _ _ _=>trivial) (fun h=>nomatch h) fun _=>?_)))
  refine RT.p (fun _ _=>trivial) rfl (Pu.assign rfl) rfl rfl ?_
  obtain rfl:=sj H
  refine RT.nil (hJ40 _ _ (x63.1.1.tick,x63.1.1.players,x63.1.1.nextid,x63.1.1.g.w,x63.1.1.g.h,x63.1.2,x63.2,x63.1.1.g.tiles,x63.1.1.bs,x63.1.1.us) (b267,q268,q269,q270) HX40 sb sb (fun w s=>s))
 refine T.xt ?_
 obtain rfl:=hd7 _ H
 refine id (hJ7 _ _ (v27,l24) q25 HX7 sb sb (fun w s=>s))
end Go.Proofs.YtmngdgclldkcfaaGreat
