/-
  Texts of one's own, joined: WH YH.
-/
import Derived.Test.YtmngdgclldkcfaaGreatRows
import Derived.Test.YtmngdgclldkcfaaGreatJ6
import Derived.Test.YtmngdgclldkcfaaGreatJ7
import Derived.Test.YtmngdgclldkcfaaGreatJ13
import Derived.Test.YtmngdgclldkcfaaGreatNH
import Derived.Test.YtmngdgclldkcfaaGreatJ15
set_option linter.unusedVariables false
set_option linter.unusedSimpArgs false
set_option maxRecDepth 20000
set_option maxHeartbeats 4000000
namespace Go.Proofs.YtmngdgclldkcfaaGreat
open Go.Vg
open Enc (R)
theorem army_Own_walk (a0_w:Wld) (w:World) {v0 v1 v2:Value} (h0:R (hpOf w) a0_w.g.tiles [v0]) (h1:R (hpOf w) a0_w.bs [v1]) (h2:R (hpOf w) a0_w.us [v2]) {r:Wld} (H:army_Own a0_w = some r):Calls Tryz.prog 38 #[.agg #[.int .i64 a0_w.tick,.int .i64 a0_w.players,.int .i64 a0_w.nextid,.int .i64 a0_w.g.w,.int .i64 a0_w.g.h,v0,v1,v2]] w fun e w'=>∃ g:(Option Nat × Nat) × (Option Nat × Nat) × (Option Nat × Nat),e = .returned (.agg #[.int .i64 r.tick,.int .i64 r.players,.int .i64 r.nextid,.int .i64 r.g.w,.int .i64 r.g.h,rowV g.1 r.g.tiles.length,rowV g.2.1 r.bs.length,rowV g.2.2 r.us.length])∧Sat w [row nilH 5 (rowV g.1 r.g.tiles.length) r.g.tiles,row nilH 135 (rowV g.2.1 r.bs.length) r.bs,row nilH 54 (rowV g.2.2 r.us.length) r.us] w':=by
 have hm0:=R_max h0
 obtain ⟨p0,c0,rfl⟩:=R_form h0
 have hm1:=R_max h1
 obtain ⟨p1,c1,rfl⟩:=R_form h1
 have hm2:=R_max h2
 obtain ⟨p2,c2,rfl⟩:=R_form h2
 unfold army_Own at H
 refine te Tryz.func38 (Sat.start w) ?_
 refine T.seq fun _ k1=>T.region (RS.solid (Sd.box (cs:=[_,_,_,_,_,_,_,_]) rfl rfl) rfl rfl fun b1=>RS.solid (Sd.alloc zr52 rfl) rfl rfl fun b2=>RS.nil (k1 _ _ ?_))
 refine T.seq fun _ k2=>?_
 refine T.drawn (fun _=>True) [(0,.pu),(1,.rd),(3,.pu),(4,.rd),(6,.pu),(7,.rd),(2,.so),(9,.pu),(5,.so),(8,.so),(10,.br),(11,.pu),(12,.br),(13,.pu),(14,.br)] mixed (ClE.sat _ _) (by kernel_rfl) ?_
 refine au 6 ?_
 obtain ⟨x3,hx3,H⟩:=bindE H
 refine RD.solid rfl (.inl rfl) rfl rfl (Sd.callN (vs:=[_]) ent32 rfl (fun w s=>ground_Own_walk a0_w.g w ((Rd.base h0) w s) hx3)) (fun _=>ClE.sat _ _) (fun _ _ _=>trivial) (fun _ _ _ s=>s.drop1) fun q4=>?_
 refine dp rfl (Pu.fieldAddr fd52_3.h rfl) ?_
 obtain ⟨x5,hx5,H⟩:=bindE H
 refine RD.solid rfl (.inl rfl) rfl rfl (Sd.callN (vs:=[_]) ent74 rfl (fun w s=>slices_Clone_Bld_walk a0_w.bs w ((Rd.base h1) w s) hx5)) (fun _=>ClE.sat _ _) (fun _ _ _=>trivial) (fun _ _ _ s=>s.drop1) fun q6=>?_
 obtain ⟨x7,hx7,H⟩:=bindE H
 refine RD.solid rfl (.inl rfl) rfl rfl (Sd.callN (vs:=[_]) ent75 rfl (fun w s=>slices_Clone_Unt_walk a0_w.us w ((Rd.base h2) w s) hx7)) (fun _=>ClE.sat _ _) (fun _ _ _=>trivial) (fun _ _ _ s=>s.drop1) fun q8=>?_
 refine au 5 ?_
 refine RD.nil (k2 _ _ (kq [1,2] ?_))
 refine au 3 ?_
 obtain rfl:=sj H
 refine T.rt (Cont.retC 1 rfl ty52.h rfl rfl rfl fun w' s=>?_)
 exact ⟨⟨q4,q6,q8⟩,rfl,s.pc [2,3,4]⟩
theorem army_form0_1_walk (a0_b:Bld) (cv0:Wld) (w:World) {v0 v1 v2:Value} {p1g:Nat} (hb1:blk p1g [.int .i64 cv0.tick,.int .i64 cv0.players,.int .i64 cv0.nextid,.int .i64 cv0.g.w,.int .i64 cv0.g.h,v0,v1,v2] 52 (hpOf w)) (h0:R (hpOf w) cv0.g.tiles [v0]) (h1:R (hpOf w) cv0.bs [v1]) (h2:R (hpOf w) cv0.us [v2]) {r:Bool} (H:army_form0_1 a0_b cv0 = some r):Calls Tryz.prog 113 #[.agg #[.int .i64 a0_b.id,.int .i64 a0_b.owner,.int .i64 a0_b.x,.int .i64 a0_b.y,.int .i64 a0_b.w,.int .i64 a0_b.h],.pointer (some ⟨p1g,0,none⟩)] w fun e w'=>e = .returned (.bool r)∧Ext w w':=by
 have hm0:=R_max h0
 obtain ⟨p0,c0,rfl⟩:=R_form h0
 have hm1:=R_max h1
 obtain ⟨p1,c1,rfl⟩:=R_form h1
 have hm2:=R_max h2
 obtain ⟨p2,c2,rfl⟩:=R_form h2
 unfold army_form0_1 at H
 refine te Tryz.func113 (Sat.start w) ?_
 refine T.seq fun _ k1=>T.region (RS.solid (Sd.box (cs:=[_,_,_,_,_,_]) rfl rfl) rfl rfl fun b1=>rA rfl (RS.nil (k1 _ _ ?_)))
 refine T.seq fun _ k2=>T.region (au 3 ?_)
 refine rq (Qt.ldX ty3.h rfl hb1 (fun w s=>s.ext) rfl) (au 2 ?_)
 refine RS.joinV 6 15 (.bool (decide ((cv0.players < a0_b.owner) ∨ (cv0.nextid ≤ a0_b.id)))) [(3,_)] sb ?_ ?_
 ·refine rA rfl (RS.nil (k2 _ _ ?_))
  obtain rfl:=sj H
  refine T.rt (Cont.ret1 rfl rfl fun w' s=>?_)
  exact ⟨rfl,s.ext⟩
 intro hJ3
 refine RS.splitP 9 rfl (fun hc2=>?_) (fun hc2=>?_)
 ·refine au 6 ?_
  exact hJ3 _ _ ⟨dOrT hc2,rfl,trivial⟩ (fun w s=>s)
 refine au 3 ?_
 refine rq (Qt.ldX ty3.h rfl hb1 (fun w s=>s.ext) rfl) (au 2 ?_)
 exact hJ3 _ _ ⟨dOrF hc2,rfl,trivial⟩ (fun w s=>s)
theorem army_form0_walk (a0_w:Wld) (w:World) {v0 v1 v2:Value} (h0:R (hpOf w) a0_w.g.tiles [v0]) (h1:R (hpOf w) a0_w.bs [v1]) (h2:R (hpOf w) a0_w.us [v2]) {r:Bool} (H:army_form0 a0_w = some r):Calls Tryz.prog 69 #[.agg #[.int .i64 a0_w.tick,.int .i64 a0_w.players,.int .i64 a0_w.nextid,.int .i64 a0_w.g.w,.int .i64 a0_w.g.h,v0,v1,v2]] w fun e w'=>e = .returned (.bool r)∧Ext w w':=by
 have hm0:=R_max h0
 obtain ⟨p0,c0,rfl⟩:=R_form h0
 have hm1:=R_max h1
 obtain ⟨p1,c1,rfl⟩:=R_form h1
 have hm2:=R_max h2
 obtain ⟨p2,c2,rfl⟩:=R_form h2
 unfold army_form0 at H
 refine te Tryz.func69 (Sat.start w) ?_
 refine T.seq fun _ k1=>T.region (RS.solid (Sd.box (cs:=[_,_,_,_,_,_,_,_]) rfl rfl) rfl rfl fun b1=>rA rfl (RS.nil (k1 _ _ ?_)))
 refine T.seq fun _ k2=>T.seq fun _ k3=>T.region (au 4 ?_)
 refine RS.joinV 4 10 (.bool (decide ((a0_w.tick < 0) ∨ (1099511627776 < a0_w.tick)))) [(1,_)] sb ?_ ?_
 ·refine rM rfl ?_
  refine RS.joinV 4 15 (.bool (decide (((a0_w.tick < 0) ∨ (1099511627776 < a0_w.tick)) ∨ (a0_w.players < 1)))) [(1,_)] sb ?_ ?_
  ·refine rM rfl ?_
   refine RS.joinV 4 20 (.bool (decide ((((a0_w.tick < 0) ∨ (1099511627776 < a0_w.tick)) ∨ (a0_w.players < 1)) ∨ (8 < a0_w.players)))) [(1,_)] sb ?_ ?_
   ·refine rM rfl ?_
    refine RS.joinV 4 25 (.bool (decide (((((a0_w.tick < 0) ∨ (1099511627776 < a0_w.tick)) ∨ (a0_w.players < 1)) ∨ (8 < a0_w.players)) ∨ (a0_w.nextid < 1)))) [(1,_)] sb ?_ ?_
    ·refine rM rfl ?_
     refine RS.joinV 4 30 (.bool (decide ((((((a0_w.tick < 0) ∨ (1099511627776 < a0_w.tick)) ∨ (a0_w.players < 1)) ∨ (8 < a0_w.players)) ∨ (a0_w.nextid < 1)) ∨ (1099511627776 < a0_w.nextid)))) [(1,_)] sb ?_ ?_
     ·refine RS.nil (k3 _ _ ?_)
      refine T.cP H rfl (fun _ H=>nomatch H) (fun hc12 H=>?_)
      refine T.skip (k2 _ _ ?_)
      refine T.seq fun _ k5=>T.seq fun _ k6=>T.region (au 2 ?_)
      obtain ⟨x13,hx13,H⟩:=bindE H
      refine rq (Qt.call (vs:=[_]) ent31 rfl fun w s=>ground_May_walk a0_w.g w ((Rd.base h0) w s) hx13) (au 2 ?_)
      refine RS.joinB H 7 42 (fun b16=>.bool b16) [(1,_)] sb ?_ ?_
      ·intro b16 H
       refine rM rfl ?_
       refine RS.joinV 5 48 (.bool (decide ((b16 = true) ∨ (4096 < (a0_w.us.length:Int))))) [(1,_)] sb ?_ ?_
       ·refine RS.nil (k6 _ _ ?_)
        refine T.cP H rfl (fun _ H=>nomatch H) (fun hc19 H=>?_)
        refine T.skip (k5 _ _ ?_)
        refine T.seq fun _ k8=>T.region (au 2 ?_)
        refine rp (Pu.makeFunc rfl) ?_
        obtain ⟨x20,hx20,H⟩:=bindE H
        refine rq (Qt.call (vs:=[_,_]) ent112 rfl fun w s=>slices_ContainsFuncB_walk a0_w.bs (fun y0=>army_form0_1 y0 a0_w) w ((Rd.base h1) w s) (⟨113,_,rfl,ent113,fun y0 r w' he hr=>army_form0_1_walk y0 a0_w w' (blk_ext he (blk_of s (k:=0) rfl)) (Enc.mono he.hp ((Rd.base h0) w s)) (Enc.mono he.hp ((Rd.base h1) w s)) (Enc.mono he.hp ((Rd.base h2) w s)) hr⟩) hx20) (au 2 ?_)
        refine RS.nil (k8 _ _ (kq [2] ?_))
        obtain rfl:=sj H
        refine T.rt (Cont.ret1 rfl rfl fun w' s=>?_)
        exact ⟨rfl,s.ext⟩
       intro hJ18
       refine RS.split 43 rfl (fun hc17=>?_) (fun hc17=>?_)
       ·refine au 5 ?_
        exact hJ18 _ _ ⟨dOrT hc17,rfl,trivial⟩ (fun w s=>s)
       refine au 5 ?_
       exact hJ18 _ _ ⟨dOrF (bne_of hc17),rfl,trivial⟩ (fun w s=>s)
      intro z21 H hJ15
      refine RS.split 35 rfl (fun hc14=>?_) (fun hc14=>?_)
      ·have H:=ifT hc14 H
       refine au 7 ?_
       obtain rfl:=sj H
       exact hJ15 _ _ sb (fun w s=>s)
      have H:=ifB hc14 H
      refine au 4 ?_
      obtain ⟨x22,hx22,H⟩:=bindE H
      refine rq (Qt.call (vs:=[_,_]) ent111 rfl fun w s=>build_May_walk a0_w.g a0_w.bs w ((Rd.base h0) w s) ((Rd.base h1) w s) hx22) (au 2 ?_)
      obtain rfl:=sj H
      exact hJ15 _ _ sb (fun w s=>s)
     intro hJ11
     refine RS.splitP 26 rfl (fun hc10=>?_) (fun hc10=>?_)
     ·refine au 4 ?_
      exact hJ11 _ _ ⟨dOrT hc10,rfl,trivial⟩ (fun w s=>s)
     refine au 4 ?_
     exact hJ11 _ _ ⟨dOrF hc10,rfl,trivial⟩ (fun w s=>s)
    intro hJ9
    refine RS.splitP 21 rfl (fun hc8=>?_) (fun hc8=>?_)
    ·refine au 4 ?_
     exact hJ9 _ _ ⟨dOrT hc8,rfl,trivial⟩ (fun w s=>s)
    refine au 4 ?_
    exact hJ9 _ _ ⟨dOrF hc8,rfl,trivial⟩ (fun w s=>s)
   intro hJ7
   refine RS.splitP 16 rfl (fun hc6=>?_) (fun hc6=>?_)
   ·refine au 4 ?_
    exact hJ7 _ _ ⟨dOrT hc6,rfl,trivial⟩ (fun w s=>s)
   refine au 4 ?_
   exact hJ7 _ _ ⟨dOrF hc6,rfl,trivial⟩ (fun w s=>s)
  intro hJ5
  refine RS.splitP 11 rfl (fun hc4=>?_) (fun hc4=>?_)
  ·refine au 4 ?_
   exact hJ5 _ _ ⟨dOrT hc4,rfl,trivial⟩ (fun w s=>s)
  refine au 4 ?_
  exact hJ5 _ _ ⟨dOrF hc4,rfl,trivial⟩ (fun w s=>s)
 intro hJ3
 refine RS.splitP 6 rfl (fun hc2=>?_) (fun hc2=>?_)
 ·refine au 4 ?_
  exact hJ3 _ _ ⟨dOrT hc2,rfl,trivial⟩ (fun w s=>s)
 refine au 4 ?_
 exact hJ3 _ _ ⟨dOrF hc2,rfl,trivial⟩ (fun w s=>s)
theorem world_New_walk (a0_g:Grd) (a1_players:Int) (w:World) {v0:Value} (h0:R (hpOf w) a0_g.tiles [v0]) {r:Wld × Int} (H:world_New a0_g a1_players = some r):Calls Tryz.prog 14 #[.agg #[.int .i64 a0_g.w,.int .i64 a0_g.h,v0],.int .i64 a1_players] w fun e w'=>∃ g:(Option Nat × Nat) × (Option Nat × Nat) × (Option Nat × Nat),e = .returned (.tuple #[.agg #[.int .i64 r.1.tick,.int .i64 r.1.players,.int .i64 r.1.nextid,.int .i64 r.1.g.w,.int .i64 r.1.g.h,rowV g.1 r.1.g.tiles.length,rowV g.2.1 r.1.bs.length,rowV g.2.2 r.1.us.length],.int .i64 r.2])∧Sat w [row nilH 5 (rowV g.1 r.1.g.tiles.length) r.1.g.tiles,row nilH 135 (rowV g.2.1 r.1.bs.length) r.1.bs,row nilH 54 (rowV g.2.2 r.1.us.length) r.1.us] w':=by
 have hm0:=R_max h0
 obtain ⟨p0,c0,rfl⟩:=R_form h0
 unfold world_New at H
 refine te Tryz.func14 (Sat.start w) ?_
 refine T.seq fun _ k1=>T.region (RS.solid (Sd.box (cs:=[_,_,_]) rfl rfl) rfl rfl fun b1=>RS.solid (Sd.alloc zr52 rfl) rfl rfl fun b2=>rA rfl (RS.nil (k1 _ _ ?_)))
 refine T.seq fun _ k2=>T.seq fun _ k3=>T.region (rq (Qt.ldBA (us:=[_,_,_]) 0 ty24.h rfl rfl rfl rfl) ?_)
 obtain ⟨x3,hx3,H⟩:=bindE H
 refine rq (Qt.call (vs:=[_]) ent31 rfl fun w s=>ground_May_walk a0_g w ((Rd.base h0) w s) hx3) (au 2 ?_)
 refine RS.joinV 3 12 (.bool (decide (((!x3) = true) ∨ (a1_players < 1)))) [(1,_),(2,_),(4,_)] sb ?_ ?_
 ·refine rM rfl ?_
  refine RS.joinV 3 16 (.bool (decide ((((!x3) = true) ∨ (a1_players < 1)) ∨ (8 < a1_players)))) [(1,_),(2,_),(4,_)] sb ?_ ?_
  ·refine RS.nil (k3 _ _ ?_)
   refine T.cP H rfl (fun _ H=>nomatch H) (fun hc8 H=>?_)
   refine T.skip (k2 _ _ ?_)
   refine T.seq fun _ k5=>T.region (au 2 ?_)
   obtain ⟨x9,hx9,H⟩:=bindE H
   refine RS.solid (Sd.callN (vs:=[_]) ent32 rfl (fun w s=>ground_Own_walk a0_g w ((Rd.base h0) w s) hx9)) rfl rfl fun q10=>rp (Pu.build (cells:=[_,_,_,_,_,_,_,_]) st52 rfl rfl) (au 2 ?_)
   refine RS.nil (k5 _ _ (kq [4,5] ?_))
   obtain rfl:=sj H
   refine T.rt (Cont.retCT 1 rfl ty52.h rfl rfl rfl rfl fun w' s=>?_)
   exact ⟨⟨q10,(none,0),(none,0)⟩,rfl,((s.nilRow (α:=Bld) 135).nilRow (α:=Unt) 54).pick [2,3,4] (by decide) rfl⟩
  intro hJ7
  refine RS.splitP 13 rfl (fun hc6=>?_) (fun hc6=>?_)
  ·refine au 3 ?_
   exact hJ7 _ _ ⟨dOrT hc6,rfl,rfl,rfl,trivial⟩ (fun w s=>s)
  refine au 3 ?_
  exact hJ7 _ _ ⟨dOrF hc6,rfl,rfl,rfl,trivial⟩ (fun w s=>s)
 intro hJ5
 refine RS.split 9 rfl (fun hc4=>?_) (fun hc4=>?_)
 ·refine au 3 ?_
  exact hJ5 _ _ ⟨dOrT hc4,rfl,rfl,rfl,trivial⟩ (fun w s=>s)
 refine au 3 ?_
 exact hJ5 _ _ ⟨dOrF (bne_of hc4),rfl,rfl,rfl,trivial⟩ (fun w s=>s)
theorem command_only_walk (a0_c:Cmd) (w:World) {v0:Value} (B0:Hp) (hB0:B0.le (hpOf w)) (h0:R B0 a0_c.units [v0]) {r:Cmd × Bool} (H:command_only a0_c = some r):Calls Tryz.prog 124 #[.agg #[.int .i64 a0_c.player,.int .i64 a0_c.seq,.int .i64 a0_c.kind,.int .i64 a0_c.n,v0,.int .i64 a0_c.tile,.int .i64 a0_c.w,.int .i64 a0_c.h,.int .i64 a0_c.pos.x,.int .i64 a0_c.pos.y]] w fun e w'=>∃ u1:Value,e = .returned (.tuple #[.agg #[.int .i64 r.1.player,.int .i64 r.1.seq,.int .i64 r.1.kind,.int .i64 r.1.n,u1,.int .i64 r.1.tile,.int .i64 r.1.w,.int .i64 r.1.h,.int .i64 r.1.pos.x,.int .i64 r.1.pos.y],.bool r.2])∧Sat w [pc (R B0 (r.1.units:List Int) [u1])] w':=by
 have hm0:=R_max h0
 obtain ⟨p0,c0,rfl⟩:=R_form h0
 have hb0:=Enc.mono hB0 h0
 unfold command_only at H
 refine te Tryz.func124 (Sat.start w) ?_
 refine T.seq fun _ k1=>T.region (RS.solid (Sd.box (cs:=[_,_,_,_,_,_,_,_,_,_]) rfl rfl) rfl rfl fun b1=>RS.solid (Sd.alloc zr37 rfl) rfl rfl fun b2=>rA rfl (RS.nil (k1 _ _ ?_)))
 refine T.seq fun _ k2=>T.region (au 6 ?_)
 refine rp (Pu.build (cells:=[_,_,_,_,_,_,_,_,_,_]) st37 rfl rfl) (RS.solid (Sd.stB (cs':=[_,_,_,_,_,_,_,_,_,_]) 1 ty37.h rfl rfl rfl rfl rfl rfl rfl rfl) rfl rfl fun _=>RS.nil (k2 _ _ (kq [1,2,3] ?_)))
 refine T.seq fun _ k3=>au 3 ?_
 refine T.block (au 3 ?_)
 refine T.cP H rfl (fun hc3 H=>?_) (fun hc3 H=>?_)
 ·refine kq [1,2] ?_
  refine T.seq fun _ k6=>drS mixed [0] [0,1,0,2,0,4,0,4] ?_
  refine au 8 ?_
  refine RD.nil (k6 _ _ (kq [1,2] ?_))
  refine T.region (au 2 ?_)
  obtain ⟨x4,hx4,H⟩:=bindE H
  refine rq (Qt.call (vs:=[_]) ent114 rfl fun w s=>kind_May_walk a0_c.n w  hx4) (rM rfl ?_)
  refine RS.joinB H 4 28 (fun b7=>.bool b7) [(2,_)] sb ?_ ?_
  ·intro b7 H
   refine rA rfl (RS.nil (k3 _ _ ?_))
   refine T.seq fun _ k7=>T.region (au 4 ?_)
   refine RS.nil (k7 _ _ (kq [2,3] ?_))
   obtain rfl:=sj H
   refine T.rt (Cont.retCT 1 rfl ty37.h rfl rfl rfl rfl fun w' s=>?_)
   exact ⟨.slice none 0 0,rfl,(s.addPc ⟨none,0,rfl,by simp,by decide,.inl rfl⟩).pick [2] (by decide) rfl⟩
  intro z8 H hJ6
  refine RS.split 24 rfl (fun hc5=>?_) (fun hc5=>?_)
  ·have H:=ifT hc5 H
   refine au 2 ?_
   obtain ⟨x9,hx9,H⟩:=bindE H
   refine rq (Qt.call (vs:=[_]) ent184 rfl fun w s=>disc_Place_walk a0_c.pos w  hx9) (rp (Pu.pickT rfl rfl) ?_)
   obtain rfl:=sj H
   exact hJ6 _ _ sb (fun w s=>s)
  have H:=ifB hc5 H
  refine au 4 ?_
  obtain rfl:=sj H
  exact hJ6 _ _ sb (fun w s=>s)
 refine kq [1,2,3,12] ?_
 refine au 3 ?_
 refine T.cP H rfl (fun hc10 H=>?_) (fun hc10 H=>?_)
 ·refine kq [1,2] ?_
  refine T.seq fun _ k9=>drS mixed [0] [0,1,0,2,0,4,0,4] ?_
  refine au 8 ?_
  refine RD.nil (k9 _ _ (kq [1,2] ?_))
  refine T.region (au 2 ?_)
  obtain ⟨x11,hx11,H⟩:=bindE H
  refine rq (Qt.call (vs:=[_]) ent185 rfl fun w s=>command_units_walk a0_c.units w ((Rd.base hb0) w s) hx11) (rM rfl ?_)
  refine RS.joinB H 4 44 (fun b14=>.bool b14) [(2,_)] sb ?_ ?_
  ·intro b14 H
   refine rA rfl (RS.nil (k3 _ _ ?_))
   refine T.seq fun _ k10=>T.region (au 4 ?_)
   refine RS.nil (k10 _ _ (kq [2,3] ?_))
   obtain rfl:=sj H
   refine T.rt (Cont.retCT 1 rfl ty37.h rfl rfl rfl rfl fun w' s=>?_)
   exact ⟨.slice p0 a0_c.units.length c0,rfl,(s.addPc h0).pick [2] (by decide) rfl⟩
  intro z15 H hJ13
  refine RS.split 40 rfl (fun hc12=>?_) (fun hc12=>?_)
  ·have H:=ifT hc12 H
   refine au 2 ?_
   obtain ⟨x16,hx16,H⟩:=bindE H
   refine rq (Qt.call (vs:=[_,_,_]) ent125 rfl fun w s=>command_within_walk a0_c.tile 0 16383 w  hx16) (rp (Pu.pickT rfl rfl) ?_)
   obtain rfl:=sj H
   exact hJ13 _ _ sb (fun w s=>s)
  have H:=ifB hc12 H
  refine au 4 ?_
  obtain rfl:=sj H
  exact hJ13 _ _ sb (fun w s=>s)
 refine au 3 ?_
 refine T.cP H rfl (fun _ H=>nomatch H) (fun hc17 H=>?_)
 refine kq [1,2,3,12] ?_
 refine au 3 ?_
 refine T.cP H rfl (fun hc18 H=>?_) (fun hc18 H=>?_)
 ·refine kq [1,2] ?_
  refine T.seq fun _ k14=>drS mixed [0] [0,1,0,2,0,2,0,4,0,4,0,4] ?_
  refine au 12 ?_
  refine RD.nil (k14 _ _ (kq [1,2] ?_))
  refine T.region (au 2 ?_)
  obtain ⟨x19,hx19,H⟩:=bindE H
  refine rq (Qt.call (vs:=[_,_,_]) ent125 rfl fun w s=>command_within_walk a0_c.tile 0 16383 w  hx19) (rM rfl ?_)
  refine RS.joinB H 4 71 (fun b22=>.bool b22) [(1,_),(2,_)] sb ?_ ?_
  ·intro b22 H
   refine rM rfl ?_
   refine RS.joinB H 4 76 (fun b25=>.bool b25) [(2,_)] sb ?_ ?_
   ·intro b25 H
    refine rA rfl (RS.nil (k3 _ _ ?_))
    refine T.seq fun _ k15=>T.region (au 4 ?_)
    refine RS.nil (k15 _ _ (kq [2,3] ?_))
    obtain rfl:=sj H
    refine T.rt (Cont.retCT 1 rfl ty37.h rfl rfl rfl rfl fun w' s=>?_)
    exact ⟨.slice none 0 0,rfl,(s.addPc ⟨none,0,rfl,by simp,by decide,.inl rfl⟩).pick [2] (by decide) rfl⟩
   intro z26 H hJ24
   refine RS.split 72 rfl (fun hc23=>?_) (fun hc23=>?_)
   ·have H:=ifT hc23 H
    refine au 2 ?_
    obtain ⟨x27,hx27,H⟩:=bindE H
    refine rq (Qt.call (vs:=[_,_,_]) ent125 rfl fun w s=>command_within_walk a0_c.h 1 4 w  hx27) (rp (Pu.pickT rfl rfl) ?_)
    obtain rfl:=sj H
    exact hJ24 _ _ sb (fun w s=>s)
   have H:=ifB hc23 H
   refine au 4 ?_
   obtain rfl:=sj H
   exact hJ24 _ _ sb (fun w s=>s)
  intro z28 H hJ21
  refine RS.split 67 rfl (fun hc20=>?_) (fun hc20=>?_)
  ·have H:=ifT hc20 H
   refine au 2 ?_
   obtain ⟨x29,hx29,H⟩:=bindE H
   refine rq (Qt.call (vs:=[_,_,_]) ent125 rfl fun w s=>command_within_walk a0_c.w 1 4 w  hx29) (rp (Pu.pickT rfl rfl) ?_)
   obtain rfl:=sj H
   exact hJ21 _ _ sb (fun w s=>s)
  have H:=ifB hc20 H
  refine au 4 ?_
  obtain rfl:=sj H
  exact hJ21 _ _ sb (fun w s=>s)
 refine au 3 ?_
 refine T.cP H rfl (fun hc30 H=>?_) (fun hc30 H=>?_)
 ·refine kq [1,2] ?_
  refine T.seq fun _ k17=>T.region (au 4 ?_)
  refine RS.nil (k17 _ _ (kq [1,2] ?_))
  refine T.region (au 2 ?_)
  obtain ⟨x31,hx31,H⟩:=bindE H
  refine rq (Qt.call (vs:=[_,_,_]) ent125 rfl fun w s=>command_within_walk a0_c.n 1 1099511627776 w  hx31) (rA rfl (RS.nil (k3 _ _ (kq [2,3] ?_))))
  refine au 5 ?_
  obtain rfl:=sj H
  refine T.rt (Cont.retCT 1 rfl ty37.h rfl rfl rfl rfl fun w' s=>?_)
  exact ⟨.slice none 0 0,rfl,(s.addPc ⟨none,0,rfl,by simp,by decide,.inl rfl⟩).pick [2] (by decide) rfl⟩
 refine kq [1,2,3,12] ?_
 refine T.seq fun _ k19=>?_
 exact nomatch H
theorem command_May_walk (a0_c:Cmd) (w:World) {v0:Value} (h0:R (hpOf w) a0_c.units [v0]) {r:Bool} (H:command_May a0_c = some r):Calls Tryz.prog 76 #[.agg #[.int .i64 a0_c.player,.int .i64 a0_c.seq,.int .i64 a0_c.kind,.int .i64 a0_c.n,v0,.int .i64 a0_c.tile,.int .i64 a0_c.w,.int .i64 a0_c.h,.int .i64 a0_c.pos.x,.int .i64 a0_c.pos.y]] w fun e w'=>e = .returned (.bool r)∧Ext w w':=by
 have hm0:=R_max h0
 obtain ⟨p0,c0,rfl⟩:=R_form h0
 unfold command_May at H
 refine te Tryz.func76 (Sat.start w) ?_
 refine T.seq fun _ k1=>T.region (RS.solid (Sd.box (cs:=[_,_,_,_,_,_,_,_,_,_]) rfl rfl) rfl rfl fun b1=>rA rfl (RS.nil (k1 _ _ ?_)))
 refine T.seq fun _ k2=>T.region (rq (Qt.ldBA (us:=[_,_,_,_,_,_,_,_,_,_]) 0 ty37.h rfl rfl rfl rfl) ?_)
 obtain ⟨x2,hx2,H⟩:=bindE H
 refine RS.solid (Sd.callN (vs:=[_]) ent124 rfl (fun w s=>command_only_walk a0_c w (_) (s.ext.hp) (h0) hx2)) rfl rfl fun u3=>?_
 refine RS.know (fun w s=>s.getPc 1 rfl) fun hu4=>?_
 obtain ⟨p5,cc6,rfl⟩:=R_form hu4
 refine au 3 ?_
 refine RS.solid (Sd.alloc zr37 rfl) rfl rfl fun b7=>au 2 ?_
 refine RS.nil (k2 _ _ (kq [1,3,4] ?_))
 refine T.seq fun _ k3=>T.region (au 2 ?_)
 refine RS.joinB H 4 15 (fun b10=>.bool b10) [(1,_),(3,_)] sb ?_ ?_
 ·intro b10 H
  refine rM rfl ?_
  refine RS.joinB H 4 20 (fun b13=>.bool b13) [(1,_),(3,_)] sb ?_ ?_
  ·intro b13 H
   refine rM rfl ?_
   refine RS.joinV 6 27 (.bool (decide ((b13 = true)∧(x2.1.n = a0_c.n)))) [(1,_),(3,_)] sb ?_ ?_
   ·refine rM rfl ?_
    refine RS.joinV 6 34 (.bool (decide (((b13 = true)∧(x2.1.n = a0_c.n))∧(x2.1.pos = a0_c.pos)))) [(1,_),(3,_)] sb ?_ ?_
    ·refine rM rfl ?_
     refine RS.joinV 6 41 (.bool (decide ((((b13 = true)∧(x2.1.n = a0_c.n))∧(x2.1.pos = a0_c.pos))∧(x2.1.tile = a0_c.tile)))) [(1,_),(3,_)] sb ?_ ?_
     ·refine rM rfl ?_
      refine RS.joinV 6 48 (.bool (decide (((((b13 = true)∧(x2.1.n = a0_c.n))∧(x2.1.pos = a0_c.pos))∧(x2.1.tile = a0_c.tile))∧(x2.1.w = a0_c.w)))) [(1,_),(3,_)] sb ?_ ?_
      ·refine rM rfl ?_
       refine RS.joinV 6 55 (.bool (decide ((((((b13 = true)∧(x2.1.n = a0_c.n))∧(x2.1.pos = a0_c.pos))∧(x2.1.tile = a0_c.tile))∧(x2.1.w = a0_c.w))∧(x2.1.h = a0_c.h)))) [(1,_),(3,_)] sb ?_ ?_
       ·refine rM rfl ?_
        refine RS.joinV 8 64 (.bool (decide (((((((b13 = true)∧(x2.1.n = a0_c.n))∧(x2.1.pos = a0_c.pos))∧(x2.1.tile = a0_c.tile))∧(x2.1.w = a0_c.w))∧(x2.1.h = a0_c.h))∧((x2.1.units.length:Int) = (a0_c.units.length:Int))))) [] trivial ?_ ?_
        ·refine rA rfl (RS.nil (k3 _ _ ?_))
         obtain rfl:=sj H
         refine T.rt (Cont.ret1 rfl rfl fun w' s=>?_)
         exact ⟨rfl,s.ext⟩
        intro hJ25
        refine RS.splitP 56 rfl (fun hc24=>?_) (fun hc24=>?_)
        ·refine au 8 ?_
         exact hJ25 _ _ ⟨dAndT hc24,trivial⟩ (fun w s=>s)
        refine au 8 ?_
        exact hJ25 _ _ ⟨dAndF hc24,trivial⟩ (fun w s=>s)
       intro hJ23
       refine RS.splitP 49 rfl (fun hc22=>?_) (fun hc22=>?_)
       ·refine au 6 ?_
        exact hJ23 _ _ ⟨dAndT hc22,rfl,rfl,trivial⟩ (fun w s=>s)
       refine au 6 ?_
       exact hJ23 _ _ ⟨dAndF hc22,rfl,rfl,trivial⟩ (fun w s=>s)
      intro hJ21
      refine RS.splitP 42 rfl (fun hc20=>?_) (fun hc20=>?_)
      ·refine au 6 ?_
       exact hJ21 _ _ ⟨dAndT hc20,rfl,rfl,trivial⟩ (fun w s=>s)
      refine au 6 ?_
      exact hJ21 _ _ ⟨dAndF hc20,rfl,rfl,trivial⟩ (fun w s=>s)
     intro hJ19
     refine RS.splitP 35 rfl (fun hc18=>?_) (fun hc18=>?_)
     ·refine au 6 ?_
      exact hJ19 _ _ ⟨dAndT hc18,rfl,rfl,trivial⟩ (fun w s=>s)
     refine au 6 ?_
     exact hJ19 _ _ ⟨dAndF hc18,rfl,rfl,trivial⟩ (fun w s=>s)
    intro hJ17
    refine RS.splitP 28 rfl (fun hc16=>?_) (fun hc16=>?_)
    ·refine au 4 ?_
     refine rp (Pu.eqSt eqt33 rfl rfl rfl (eq_Vec x2.1.pos a0_c.pos)) (rp (Pu.pickT rfl rfl) ?_)
     exact hJ17 _ _ ⟨dAndT hc16,rfl,rfl,trivial⟩ (fun w s=>s)
    refine au 6 ?_
    exact hJ17 _ _ ⟨dAndF hc16,rfl,rfl,trivial⟩ (fun w s=>s)
   intro hJ15
   refine RS.split 21 rfl (fun hc14=>?_) (fun hc14=>?_)
   ·refine au 6 ?_
    exact hJ15 _ _ ⟨dAndT hc14,rfl,rfl,trivial⟩ (fun w s=>s)
   refine au 6 ?_
   exact hJ15 _ _ ⟨dAndF (bne_of hc14),rfl,rfl,trivial⟩ (fun w s=>s)
  intro z26 H hJ12
  refine RS.split 16 rfl (fun hc11=>?_) (fun hc11=>?_)
  ·have H:=ifT hc11 H
   refine au 2 ?_
   obtain ⟨x27,hx27,H⟩:=bindE H
   refine rq (Qt.call (vs:=[_,_,_]) ent125 rfl fun w s=>command_within_walk a0_c.seq 0 1099511627776 w  hx27) (rp (Pu.pickT rfl rfl) ?_)
   obtain rfl:=sj H
   exact hJ12 _ _ sb (fun w s=>s)
  have H:=ifB hc11 H
  refine au 4 ?_
  obtain rfl:=sj H
  exact hJ12 _ _ sb (fun w s=>s)
 intro z28 H hJ9
 refine RS.split 11 rfl (fun hc8=>?_) (fun hc8=>?_)
 ·have H:=ifT hc8 H
  refine au 2 ?_
  obtain ⟨x29,hx29,H⟩:=bindE H
  refine rq (Qt.call (vs:=[_,_,_]) ent125 rfl fun w s=>command_within_walk a0_c.player 1 8 w  hx29) (rp (Pu.pickT rfl rfl) ?_)
  obtain rfl:=sj H
  exact hJ9 _ _ sb (fun w s=>s)
 have H:=ifB hc8 H
 refine au 4 ?_
 obtain rfl:=sj H
 exact hJ9 _ _ sb (fun w s=>s)
end Go.Proofs.YtmngdgclldkcfaaGreat
set_option linter.unusedVariables false
set_option linter.unusedSimpArgs false
set_option maxRecDepth 20000
set_option maxHeartbeats 4000000
namespace Go.Proofs.YtmngdgclldkcfaaGreat
open Go.Vg
open Enc (R)
theorem ent181:Ent Tryz.prog 181:=en Tryz.func181
theorem ent182:Ent Tryz.prog 182:=en Tryz.func182
theorem ent239:Ent Tryz.prog 239:=en Tryz.func239
theorem ent240:Ent Tryz.prog 240:=en Tryz.func240
theorem ent241:Ent Tryz.prog 241:=en Tryz.func241
theorem st266:stTy Tryz.prog 266 = some ([.int .i64 0,.int .i64 0],[(0,1),(1,1)]):=by kernel_rfl
instance ty266:TyC Tryz.prog 266 (2,true):={}
theorem zr266:zeroOf Tryz.prog 266 = some (.agg #[.int .i64 0,.int .i64 0]):=by kernel_rfl
theorem cmp_Less_walk (a0_x:Int) (a1_y:Int) (w:World) {r:Bool} (H:cmp_Less a0_x a1_y = some r):Calls Tryz.prog 240 #[.int .i64 a0_x,.int .i64 a1_y] w fun e w'=>e = .returned (.bool r)∧Ext w w':=by
 unfold cmp_Less at H
 refine te Tryz.func240 (Sat.start w) ?_
 refine au 2 ?_
 refine T.seq fun _ k2=>T.region (rM rfl ?_)
 obtain ⟨x1,hx1,H⟩:=bindE H
 refine rq (Qt.call (vs:=[_]) ent254 rfl fun w s=>cmp_isNaN_walk a0_x w  hx1) (rM rfl ?_)
 refine RS.joinB H 4 11 (fun b4=>.bool b4) [(0,_),(1,_),(4,_)] sb ?_ ?_
 ·intro b4 H
  refine rM rfl ?_
  refine RS.joinV 4 16 (.bool (decide ((b4 = true) ∨ (a0_x < a1_y)))) [(4,_)] sb ?_ ?_
  ·refine rA rfl (RS.nil (k2 _ _ ?_))
   obtain rfl:=sj H
   refine T.rt (Cont.ret1 rfl rfl fun w' s=>?_)
   exact ⟨rfl,s.ext⟩
  intro hJ6
  refine RS.split 12 rfl (fun hc5=>?_) (fun hc5=>?_)
  ·refine au 4 ?_
   exact hJ6 _ _ ⟨dOrT hc5,rfl,trivial⟩ (fun w s=>s)
  refine au 4 ?_
  exact hJ6 _ _ ⟨dOrF (bne_of hc5),rfl,trivial⟩ (fun w s=>s)
 intro z7 H hJ3
 refine RS.split 7 rfl (fun hc2=>?_) (fun hc2=>?_)
 ·have H:=ifT hc2 H
  refine rM rfl ?_
  obtain ⟨x8,hx8,H⟩:=bindE H
  refine rq (Qt.call (vs:=[_]) ent254 rfl fun w s=>cmp_isNaN_walk a1_y w  hx8) (au 2 ?_)
  obtain rfl:=sj H
  exact hJ3 _ _ sb (fun w s=>s)
 have H:=ifB hc2 H
 refine au 4 ?_
 obtain rfl:=sj H
 exact hJ3 _ _ sb (fun w s=>s)
theorem slices_isNaN_walk (a0_x:Int) (w:World) {r:Bool} (H:slices_isNaN a0_x = some r):Calls Tryz.prog 241 #[.int .i64 a0_x] w fun e w'=>e = .returned (.bool r)∧Ext w w':=by
 unfold slices_isNaN at H
 refine te Tryz.func241 (Sat.start w) ?_
 refine au 2 ?_
 refine T.seq fun _ k2=>T.region (au 4 ?_)
 refine RS.nil (k2 _ _ (kq [2] ?_))
 obtain rfl:=sj H
 refine T.rt (Cont.ret1 rfl rfl fun w' s=>?_)
 exact ⟨rfl,s.ext⟩
theorem cells_down_walk (a0_a:Int) (w:World) {r:Int} (H:cells_down a0_a = some r):Calls Tryz.prog 239 #[.int .i64 a0_a] w fun e w'=>e = .returned (.int .i64 r)∧Ext w w':=by
 unfold cells_down at H
 refine te Tryz.func239 (Sat.start w) ?_
 refine au 2 ?_
 refine T.seq fun _ k2=>T.region (rM rfl ?_)
 obtain ⟨x1,hx1,H⟩:=bindE H
 refine rq (Qt.call (vs:=[_]) ent283 rfl fun w s=>fixed_Norm_walk a0_a w  hx1) (rA rfl (RS.nil (k2 _ _ (kq [0] ?_))))
 refine T.seq fun _ k3=>au 3 ?_
 refine T.cP H rfl (fun hc2 H=>?_) (fun hc2 H=>?_)
 ·refine T.seq fun _ k5=>T.region (rM rfl ?_)
  obtain ⟨g3,H⟩:=gdE H
  refine rp (Pu.negS rfl g3) ?_
  obtain ⟨g4,H⟩:=gdE H
  refine rp (Pu.subS rfl rfl g4) ?_
  obtain ⟨g5,H⟩:=gdE H
  refine rp (Pu.quoN rfl rfl ⟨g5.1,g5.2,by decide⟩) ?_
  obtain ⟨g6,H⟩:=gdE H
  refine rp (Pu.addS rfl rfl g6) ?_
  obtain ⟨g7,H⟩:=gdE H
  refine rp (Pu.negS rfl g7) (rA rfl (RS.nil (k5 _ _ (kq [2] ?_))))
  obtain rfl:=sj H
  refine T.rt (Cont.ret1 rfl rfl fun w' s=>?_)
  exact ⟨rfl,s.ext⟩
 refine T.skip (k3 _ _ ?_)
 refine T.seq fun _ k6=>T.region (rM rfl ?_)
 obtain ⟨g8,H⟩:=gdE H
 refine rp (Pu.quoN rfl rfl ⟨g8.1,g8.2,by decide⟩) (rA rfl (RS.nil (k6 _ _ (kq [2] ?_))))
 obtain rfl:=sj H
 refine T.rt (Cont.ret1 rfl rfl fun w' s=>?_)
 exact ⟨rfl,s.ext⟩
theorem cells_of_walk (a0_p:Vec) (w:World) {r:Cel} (H:cells_of a0_p = some r):Calls Tryz.prog 172 #[.agg #[.int .i64 a0_p.x,.int .i64 a0_p.y]] w fun e w'=>e = .returned (.agg #[.int .i64 r.x,.int .i64 r.y])∧Ext w w':=by
 unfold cells_of at H
 refine te Tryz.func172 (Sat.start w) ?_
 refine T.seq fun _ k1=>T.region (RS.solid (Sd.box (cs:=[_,_]) rfl rfl) rfl rfl fun b1=>RS.solid (Sd.alloc zr266 rfl) rfl rfl fun b2=>RS.nil (k1 _ _ ?_))
 refine T.seq fun _ k2=>dr mixed [0,1,1,0,1,1,0,4] ?_
 refine au 2 ?_
 obtain ⟨x3,hx3,H⟩:=bindE H
 refine dq rfl (Qt.call (vs:=[_]) ent239 rfl fun w s=>cells_down_walk a0_p.x w  hx3) (au 2 ?_)
 obtain ⟨x4,hx4,H⟩:=bindE H
 refine dq rfl (Qt.call (vs:=[_]) ent239 rfl fun w s=>cells_down_walk a0_p.y w  hx4) (dp rfl (Pu.build (cells:=[_,_]) st266 rfl rfl) (RD.solid rfl (.inr rfl) rfl rfl (Sd.stB (cs':=[_,_]) 1 ty266.h rfl rfl rfl rfl rfl rfl rfl rfl) (fun _=>ClE.sat _ _) (fun _ _ _=>trivial) (fun h=>nomatch h) fun _=>?_))
 refine RD.nil (k2 _ _ (kq [2] ?_))
 obtain rfl:=sj H
 refine T.rt (Cont.retC 1 rfl ty266.h rfl rfl rfl fun w' s=>?_)
 exact ⟨rfl,s.ext⟩
theorem slices_BinarySearch_walk (a0_x:List Int) (a1_target:Int) (w:World) {v0:Value} (h0:R (hpOf w) a0_x [v0]) {r:Int × Bool} (H:slices_BinarySearch a0_x a1_target = some r):Calls Tryz.prog 173 #[v0,.int .i64 a1_target] w fun e w'=>e = .returned (.tuple #[.int .i64 r.1,.bool r.2])∧Ext w w':=by
 have hm0:=R_max h0
 obtain ⟨p0,c0,rfl⟩:=R_form h0
 unfold slices_BinarySearch at H
 refine te Tryz.func173 (Sat.start w) ?_
 refine au 3 ?_
 refine T.seq fun _ k2=>T.region (au 3 ?_)
 refine RS.nil (k2 _ _ (kq [0,1,6] ?_))
 refine au 4 ?_
 refine T.joinA (σ:=Int) (γ:=Unit) H (fun s=>s) [(0,_),(1,_),(6,_)] sb (fun v2 _=>[(7,.int .i64 v2)]) (fun v2 _=>Sat w []) ?_ ?_
 ·rintro v2 ⟨⟩ H
  try dsimp only [Ex.then] at H
  refine kq [7,0,1,6] ?_
  refine T.seq fun _ k5=>T.region (au 5 ?_)
  refine RS.joinB H 18 53 (fun b5=>.bool b5) [(31,_)] sb ?_ ?_
  ·intro b5 H
   refine au 2 ?_
   refine RS.nil (k5 _ _ ?_)
   obtain rfl:=sj H
   refine T.rt (Cont.ret2 rfl rfl rfl fun w' s=>?_)
   exact ⟨rfl,s.ext⟩
  intro z6 H hJ4
  refine RS.splitP 35 rfl (fun hc3=>?_) (fun hc3=>?_)
  ·have H:=ifT hc3 H
   refine au 2 ?_
   obtain ⟨g7,H⟩:=gdE H
   obtain ⟨bl8,ol9,rfl⟩:=R_ptr h0 (ne_of_pos (pos_of g7))
   refine rp (Pu.indexSl sl35.h rfl rfl g7) (rq (Qt.ld0 (α:=Int) (Rd.base h0) ty3.h rfl rfl g7 (by rintro _ _ rfl; rfl)) (au 3 ?_))
   refine RS.joinB H 10 52 (fun b12=>.bool b12) [(0,_),(1,_),(6,_),(7,_),(31,_),(32,_),(33,_),(34,_),(35,_),(36,_),(37,_),(38,_),(39,_),(40,_),(41,_)] sb ?_ ?_
   ·intro b12 H
    refine rp (Pu.pickT rfl rfl) ?_
    obtain rfl:=sj H
    exact hJ4 _ _ sb (fun w s=>s)
   intro z13 H hJ11
   refine RS.splitP 42 rfl (fun hc10=>?_) (fun hc10=>?_)
   ·have H:=ifT hc10 H
    refine au 10 ?_
    obtain rfl:=sj H
    exact hJ11 _ _ sb (fun w s=>s)
   have H:=ifF hc10 H
   refine au 2 ?_
   obtain ⟨g14,H⟩:=gdE H
   refine rp (Pu.indexSl sl35.h rfl rfl g14) (rq (Qt.ld0 (α:=Int) (Rd.base h0) ty3.h rfl rfl g14 (by rintro _ _ rfl; rfl)) ?_)
   obtain ⟨x15,hx15,H⟩:=bindE H
   refine rq (Qt.call (vs:=[_]) ent241 rfl fun w s=>slices_isNaN_walk (gi a0_x v2) w  hx15) (rM rfl ?_)
   refine RS.joinB H 3 51 (fun b18=>.bool b18) [(0,_),(1,_),(6,_),(7,_),(31,_),(32,_),(33,_),(34,_),(35,_),(36,_),(37,_),(38,_),(39,_),(40,_),(41,_),(42,_),(43,_),(44,_),(45,_),(46,_),(47,_)] sb ?_ ?_
   ·intro b18 H
    refine rp (Pu.pickF rfl rfl) ?_
    obtain rfl:=sj H
    exact hJ11 _ _ sb (fun w s=>s)
   intro z19 H hJ17
   refine RS.split 48 rfl (fun hc16=>?_) (fun hc16=>?_)
   ·have H:=ifT hc16 H
    refine rM rfl ?_
    obtain ⟨x20,hx20,H⟩:=bindE H
    refine rq (Qt.call (vs:=[_]) ent241 rfl fun w s=>slices_isNaN_walk a1_target w  hx20) (rp (Pu.pickT rfl rfl) ?_)
    obtain rfl:=sj H
    exact hJ17 _ _ sb (fun w s=>s)
   have H:=ifB hc16 H
   refine au 3 ?_
   obtain rfl:=sj H
   exact hJ17 _ _ sb (fun w s=>s)
  have H:=ifF hc3 H
  refine au 18 ?_
  obtain rfl:=sj H
  exact hJ4 _ _ sb (fun w s=>s)
 intro z1 hz1 HX1 K4 hJ1
 refine T.block ?_
 refine T.loopA (γ:=Unit) hz1 [(0,_),(1,_),(6,_)] (fun (v21,v22) _=>[(7,.int .i64 v21),(8,.int .i64 v22)]) (fun (v21,v22) _=>Sat w []) () sb sb (fun w s=>s) ?_
 rintro ⟨v21,v22⟩ ⟨⟩ y23 H hd1 KL1 hL1
 try dsimp only [Ex.then] at H
 refine kq [7,8,0,1,6] ?_
 refine T.seq fun _ k6=>au 4 ?_
 refine T.cP H rfl (fun hc24 H=>?_) (fun hc24 H=>?_)
 ·refine T.skip (k6 _ _ (kq [0,1,6,7,8] ?_))
  refine T.block (T.seq fun _ k8=>T.region (au 2 ?_))
  obtain ⟨g25,H⟩:=gdE H
  refine rp (Pu.addS rfl rfl g25) (rp (Pu.convUW us3 ul80 rfl) ?_)
  obtain ⟨g26,H⟩:=gdE H
  refine rp (Pu.shr1 rfl rfl g26) ?_
  obtain ⟨g27,H⟩:=gdE H
  refine rp (Pu.convS us80 ul3 rfl g27) (rA rfl (RS.nil (k8 _ _ (kq [0,1,6,7,8,9] ?_))))
  refine T.seq fun _ k9=>T.region (au 2 ?_)
  obtain ⟨g28,H⟩:=gdE H
  obtain ⟨bl29,ol30,rfl⟩:=R_ptr h0 (ne_of_pos (pos_of g28))
  refine rp (Pu.indexSl sl35.h rfl rfl g28) (rq (Qt.ld0 (α:=Int) (Rd.base h0) ty3.h rfl rfl g28 (by rintro _ _ rfl; rfl)) (rM rfl ?_))
  obtain ⟨x31,hx31,H⟩:=bindE H
  refine rq (Qt.call (vs:=[_,_]) ent240 rfl fun w s=>cmp_Less_walk (gi a0_x (((v21 + v22) % 18446744073709551616) / 2)) a1_target w  hx31) (RS.nil (k9 _ _ ?_))
  refine T.cB H rfl (fun hc32 H=>?_) (fun hc32 H=>?_)
  ·refine kq [0,1,6,8,9] ?_
   refine T.region (rM rfl ?_)
   obtain ⟨g33,H⟩:=gdE H
   refine rp (Pu.addS rfl rfl g33) (rA rfl (RS.nil (hL1 _ _ (((((v21 + v22) % 18446744073709551616) / 2) + 1),v22) () H sb sb (fun w s=>s))))
  refine kq [0,1,6,7,9] ?_
  refine T.region (au 2 ?_)
  refine RS.nil (hL1 _ _ (v21,(((v21 + v22) % 18446744073709551616) / 2)) () H sb sb (fun w s=>s))
 obtain rfl:=hd1 _ H
 refine T.xt (hJ1 _ _ v21 () HX1 sb sb (fun w s=>s))
theorem army_At_1_walk (a0_u:Unt) (a1_id:Int) (w:World) {r:Int} (H:army_At_1 a0_u a1_id = some r):Calls Tryz.prog 182 #[.agg #[.int .i64 a0_u.id,.int .i64 a0_u.owner,.int .i64 a0_u.kind,.int .i64 a0_u.pos.x,.int .i64 a0_u.pos.y,.int .i64 a0_u.goal,.int .i64 a0_u.next,.int .i64 a0_u.stuck,.int .i64 a0_u.inn,.int .i64 a0_u.state],.int .i64 a1_id] w fun e w'=>e = .returned (.int .i64 r)∧Ext w w':=by
 unfold army_At_1 at H
 refine te Tryz.func182 (Sat.start w) ?_
 refine T.seq fun _ k1=>T.region (RS.solid (Sd.box (cs:=[_,_,_,_,_,_,_,_,_,_]) rfl rfl) rfl rfl fun b1=>rA rfl (RS.nil (k1 _ _ ?_)))
 refine T.seq fun _ k2=>T.region (au 3 ?_)
 obtain ⟨x2,hx2,H⟩:=bindE H
 refine rq (Qt.call (vs:=[_,_]) ent183 rfl fun w s=>cmp_Compare_walk a0_u.id a1_id w  hx2) (rA rfl (RS.nil (k2 _ _ (kq [4] ?_))))
 obtain rfl:=sj H
 refine T.rt (Cont.ret1 rfl rfl fun w' s=>?_)
 exact ⟨rfl,s.ext⟩
theorem slices_BinarySearchFuncU_walk (a0_x:List Unt) (a1_target:Int) (a2_cmp:(Unt × Int)→Option Int) (w:World) {v0 v1:Value} (h0:R (hpOf w) a0_x [v0]) (h1:FnQ Tryz.prog w v1 (fun (z:Unt × Int)=>[.agg #[.int .i64 z.1.id,.int .i64 z.1.owner,.int .i64 z.1.kind,.int .i64 z.1.pos.x,.int .i64 z.1.pos.y,.int .i64 z.1.goal,.int .i64 z.1.next,.int .i64 z.1.stuck,.int .i64 z.1.inn,.int .i64 z.1.state],.int .i64 z.2]) (fun (r:Int)=>.int .i64 r) a2_cmp) {r:Int × Bool} (H:slices_BinarySearchFuncU a0_x a1_target a2_cmp = some r):Calls Tryz.prog 181 #[v0,.int .i64 a1_target,v1] w fun e w'=>e = .returned (.tuple #[.int .i64 r.1,.bool r.2])∧Ext w w':=by
 have hm0:=R_max h0
 obtain ⟨p0,c0,rfl⟩:=R_form h0
 unfold slices_BinarySearchFuncU at H
 refine te Tryz.func181 (Sat.start w) ?_
 refine au 3 ?_
 refine T.seq fun _ k2=>T.region (au 3 ?_)
 refine RS.nil (k2 _ _ (kq [0,1,2,8] ?_))
 refine au 4 ?_
 refine T.joinA (σ:=Int) (γ:=Unit) H (fun s=>s) [(0,_),(1,_),(2,_),(8,_)] sb (fun v2 _=>[(9,.int .i64 v2)]) (fun v2 _=>Sat w []) ?_ ?_
 ·rintro v2 ⟨⟩ H
  try dsimp only [Ex.then] at H
  refine kq [9,0,1,2,8] ?_
  refine T.seq fun _ k5=>T.region (au 5 ?_)
  refine RS.joinB H 9 48 (fun b5=>.bool b5) [(35,_)] sb ?_ ?_
  ·intro b5 H
   refine au 2 ?_
   refine RS.nil (k5 _ _ ?_)
   obtain rfl:=sj H
   refine T.rt (Cont.ret2 rfl rfl rfl fun w' s=>?_)
   exact ⟨rfl,s.ext⟩
  intro z6 H hJ4
  refine RS.splitP 39 rfl (fun hc3=>?_) (fun hc3=>?_)
  ·have H:=ifT hc3 H
   refine au 3 ?_
   obtain ⟨g7,H⟩:=gdE H
   obtain ⟨bl8,ol9,rfl⟩:=R_ptr h0 (ne_of_pos (pos_of g7))
   refine rp (Pu.indexSl sl50.h rfl rfl g7) (rq (Qt.ldW (α:=Unt) (cs:=[_,_,_,_,_,_,_,_,_,_]) (Rd.base h0) ty54.h rfl rfl g7 rfl (by rintro _ _ rfl; rfl)) (rM rfl ?_))
   obtain ⟨x10,hx10,H⟩:=bindE H
   refine rq (Qt.callV rfl h1 (fun w s=>s.ext) hx10 rfl) (au 2 ?_)
   obtain rfl:=sj H
   exact hJ4 _ _ sb (fun w s=>s)
  have H:=ifF hc3 H
  refine au 9 ?_
  obtain rfl:=sj H
  exact hJ4 _ _ sb (fun w s=>s)
 intro z1 hz1 HX1 K4 hJ1
 refine T.block ?_
 refine T.loopA (γ:=Unit) hz1 [(0,_),(1,_),(2,_),(8,_)] (fun (v11,v12) _=>[(9,.int .i64 v11),(10,.int .i64 v12)]) (fun (v11,v12) _=>Sat w []) () sb sb (fun w s=>s) ?_
 rintro ⟨v11,v12⟩ ⟨⟩ y13 H hd1 KL1 hL1
 try dsimp only [Ex.then] at H
 refine kq [9,10,0,1,2,8] ?_
 refine T.seq fun _ k6=>au 4 ?_
 refine T.cP H rfl (fun hc14 H=>?_) (fun hc14 H=>?_)
 ·refine T.skip (k6 _ _ (kq [0,1,2,8,9,10] ?_))
  refine T.block (T.seq fun _ k8=>T.region (au 2 ?_))
  obtain ⟨g15,H⟩:=gdE H
  refine rp (Pu.addS rfl rfl g15) (rp (Pu.convUW us3 ul80 rfl) ?_)
  obtain ⟨g16,H⟩:=gdE H
  refine rp (Pu.shr1 rfl rfl g16) ?_
  obtain ⟨g17,H⟩:=gdE H
  refine rp (Pu.convS us80 ul3 rfl g17) (rA rfl (RS.nil (k8 _ _ (kq [0,1,2,8,9,10,11] ?_))))
  refine T.seq fun _ k9=>T.region (au 3 ?_)
  obtain ⟨g18,H⟩:=gdE H
  obtain ⟨bl19,ol20,rfl⟩:=R_ptr h0 (ne_of_pos (pos_of g18))
  refine rp (Pu.indexSl sl50.h rfl rfl g18) (rq (Qt.ldW (α:=Unt) (cs:=[_,_,_,_,_,_,_,_,_,_]) (Rd.base h0) ty54.h rfl rfl g18 rfl (by rintro _ _ rfl; rfl)) (rM rfl ?_))
  obtain ⟨x21,hx21,H⟩:=bindE H
  refine rq (Qt.callV rfl h1 (fun w s=>s.ext) hx21 rfl) (rp (Pu.bin rfl rfl rfl) (RS.nil (k9 _ _ ?_)))
  refine T.cP H rfl (fun _ H=>nomatch H) (fun hc22 H=>?_)
  refine kq [0,1,2,8,9,11] ?_
  refine T.region (au 2 ?_)
  refine RS.nil (hL1 _ _ (v11,(((v11 + v12) % 18446744073709551616) / 2)) () H sb sb (fun w s=>s))
 obtain rfl:=hd1 _ H
 refine T.xt (hJ1 _ _ v11 () HX1 sb sb (fun w s=>s))
theorem army_At_walk (a0_l:List Unt) (a1_id:Int) (w:World) {v0:Value} (h0:R (hpOf w) a0_l [v0]) {r:Int × Bool} (H:army_At a0_l a1_id = some r):Calls Tryz.prog 123 #[v0,.int .i64 a1_id] w fun e w'=>e = .returned (.tuple #[.int .i64 r.1,.bool r.2])∧Ext w w':=by
 have hm0:=R_max h0
 obtain ⟨p0,c0,rfl⟩:=R_form h0
 unfold army_At at H
 refine te Tryz.func123 (Sat.start w) ?_
 refine au 3 ?_
 refine T.seq fun _ k2=>T.region (au 2 ?_)
 obtain ⟨x1,hx1,H⟩:=bindE H
 refine rq (Qt.call (vs:=[_,_,_]) ent181 rfl fun w s=>slices_BinarySearchFuncU_walk a0_l a1_id (fun (y0,y1)=>army_At_1 y0 y1) w ((Rd.base h0) w s) (⟨182,_,rfl,ent182,fun ⟨y0,y1⟩ r w' he hr=>army_At_1_walk y0 y1 w'  hr⟩) hx1) (au 4 ?_)
 refine RS.nil (k2 _ _ (kq [4,5] ?_))
 obtain rfl:=sj H
 refine T.rt (Cont.ret2 rfl rfl rfl fun w' s=>?_)
 exact ⟨rfl,s.ext⟩
theorem slices_Contains_walk (a0_s:List Int) (a1_v:Int) (w:World) {v0:Value} (h0:R (hpOf w) a0_s [v0]) {r:Bool} (H:slices_Contains a0_s a1_v = some r):Calls Tryz.prog 270 #[v0,.int .i64 a1_v] w fun e w'=>e = .returned (.bool r)∧Ext w w':=by
 have hm0:=R_max h0
 obtain ⟨p0,c0,rfl⟩:=R_form h0
 unfold slices_Contains at H
 refine te Tryz.func270 (Sat.start w) ?_
 refine au 2 ?_
 refine T.seq fun _ k2=>T.region (au 2 ?_)
 obtain ⟨x1,hx1,H⟩:=bindE H
 refine rq (Qt.call (vs:=[_,_]) ent307 rfl fun w s=>slices_Index_walk a0_s a1_v w ((Rd.base h0) w s) hx1) (au 2 ?_)
 refine RS.nil (k2 _ _ (kq [4] ?_))
 obtain rfl:=sj H
 refine T.rt (Cont.ret1 rfl rfl fun w' s=>?_)
 exact ⟨rfl,s.ext⟩
end Go.Proofs.YtmngdgclldkcfaaGreat
