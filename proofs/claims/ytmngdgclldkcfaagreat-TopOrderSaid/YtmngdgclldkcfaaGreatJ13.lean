/-
  Texts of one's own, joined: WH ZV.
-/
import Derived.Test.YtmngdgclldkcfaaGreatRows
import Derived.Test.YtmngdgclldkcfaaGreatJ6
import Derived.Test.YtmngdgclldkcfaaGreatJ7
import Derived.Test.YtmngdgclldkcfaaGreatJ11
import Derived.Test.YtmngdgclldkcfaaGreatNH
import Derived.Test.YtmngdgclldkcfaaGreatJ12
import Derived.Test.YtmngdgclldkcfaaGreatJ9
set_option linter.unusedVariables false
set_option linter.unusedSimpArgs false
set_option maxRecDepth 20000
set_option maxHeartbeats 4000000
namespace Go.Proofs.YtmngdgclldkcfaaGreat
open Go.Vg
open Enc (R)
theorem army_Own_walk (a0_w:Wld) (w:World) {v0 v1 v2:Value} (h0:R (hpOf w) a0_w.g.tiles [v0]) (h1:R (hpOf w) a0_w.bs [v1]) (h2:R (hpOf w) a0_w.us [v2]) {r:Wld} (H:army_Own a0_w = some r):Calls Tryz.prog 38 #[.agg #[.int .i64 a0_w.tick,.int .i64 a0_w.players,.int .i64 a0_w.nextid,.int .i64 a0_w.g.w,.int .i64 a0_w.g.h,v0,v1,v2]] w fun e w'=>∃ g:(Option Nat × Nat) × (Option Nat × Nat) × (Option Nat × Nat),e = .returned (.agg #[.int .i64 r.tick,.int .i64 r.players,.int .i64 r.nextid,.int .i64 r.g.w,.int .i64 r.g.h,rowV g.1 r.g.tiles.length,rowV g.2.1 r.bs.length,rowV g.2.2 r.us.length])∧Sat w [row nilH 5 (rowV g.1 r.g.tiles.length) r.g.tiles,row nilH 135 (rowV g.2.1 r.bs.length) r.bs,row nilH 54 (rowV g.2.2 r.us.length) r.us] w':=by
 have hm0:=R_max h0
 obtain ⟨p0,c0,rfl⟩:=R_form h0
 have hm1:=R_max h1
 obtain ⟨p1,c1,rfl⟩:=R_form h1
 have hm2:=R_max h2
 obtain ⟨p2,c2,rfl⟩:=R_form h2
 unfold army_Own at H
 refine te Tryz.func38 (Sat.start w) ?_
 refine T.seq fun _ k1=>T.region (RS.solid (Sd.box (cs:=[_,_,_,_,_,_,_,_]) rfl rfl) rfl rfl fun b1=>RS.solid (Sd.alloc zr52 rfl) rfl rfl fun b2=>RS.nil (k1 _ _ ?_))
 refine T.seq fun _ k2=>?_
 refine T.drawn (fun _=>True) [(0,.pu),(1,.rd),(3,.pu),(4,.rd),(6,.pu),(7,.rd),(2,.so),(9,.pu),(5,.so),(8,.so),(10,.br),(11,.pu),(12,.br),(13,.pu),(14,.br)] mixed (ClE.sat _ _) (by kernel_rfl) ?_
 refine au 6 ?_
 obtain ⟨x3,hx3,H⟩:=bindE H
 refine RD.solid rfl (.inl rfl) rfl rfl (Sd.callN (vs:=[_]) ent32 rfl (fun w s=>ground_Own_walk a0_w.g w ((Rd.base h0) w s) hx3)) (fun _=>ClE.sat _ _) (fun _ _ _=>trivial) (fun _ _ _ s=>s.drop1) fun q4=>?_
 refine dp rfl (Pu.fieldAddr fd52_3.h rfl) ?_
 obtain ⟨x5,hx5,H⟩:=bindE H
 refine RD.solid rfl (.inl rfl) rfl rfl (Sd.callN (vs:=[_]) ent74 rfl (fun w s=>slices_Clone_Bld_walk a0_w.bs w ((Rd.base h1) w s) hx5)) (fun _=>ClE.sat _ _) (fun _ _ _=>trivial) (fun _ _ _ s=>s.drop1) fun q6=>?_
 obtain ⟨x7,hx7,H⟩:=bindE H
 refine RD.solid rfl (.inl rfl) rfl rfl (Sd.callN (vs:=[_]) ent75 rfl (fun w s=>slices_Clone_Unt_walk a0_w.us w ((Rd.base h2) w s) hx7)) (fun _=>ClE.sat _ _) (fun _ _ _=>trivial) (fun _ _ _ s=>s.drop1) fun q8=>?_
 refine au 5 ?_
 refine RD.nil (k2 _ _ (kq [1,2] ?_))
 refine au 3 ?_
 obtain rfl:=sj H
 refine T.rt (Cont.retC 1 rfl ty52.h rfl rfl rfl fun w' s=>?_)
 exact ⟨⟨q4,q6,q8⟩,rfl,s.pc [2,3,4]⟩
theorem army_form0_1_walk (a0_b:Bld) (cv0:Wld) (w:World) {v0 v1 v2:Value} {p1g:Nat} (hb1:blk p1g [.int .i64 cv0.tick,.int .i64 cv0.players,.int .i64 cv0.nextid,.int .i64 cv0.g.w,.int .i64 cv0.g.h,v0,v1,v2] 52 (hpOf w)) (h0:R (hpOf w) cv0.g.tiles [v0]) (h1:R (hpOf w) cv0.bs [v1]) (h2:R (hpOf w) cv0.us [v2]) {r:Bool} (H:army_form0_1 a0_b cv0 = some r):Calls Tryz.prog 113 #[.agg #[.int .i64 a0_b.id,.int .i64 a0_b.owner,.int .i64 a0_b.x,.int .i64 a0_b.y,.int .i64 a0_b.w,.int .i64 a0_b.h],.pointer (some ⟨p1g,0,none⟩)] w fun e w'=>e = .returned (.bool r)∧Ext w w':=by
 have hm0:=R_max h0
 obtain ⟨p0,c0,rfl⟩:=R_form h0
 have hm1:=R_max h1
 obtain ⟨p1,c1,rfl⟩:=R_form h1
 have hm2:=R_max h2
 obtain ⟨p2,c2,rfl⟩:=R_form h2
 unfold army_form0_1 at H
 refine te Tryz.func113 (Sat.start w) ?_
 refine T.seq fun _ k1=>?_
 exact nomatch H
theorem army_form0_walk (a0_w:Wld) (w:World) {v0 v1 v2:Value} (h0:R (hpOf w) a0_w.g.tiles [v0]) (h1:R (hpOf w) a0_w.bs [v1]) (h2:R (hpOf w) a0_w.us [v2]) {r:Bool} (H:army_form0 a0_w = some r):Calls Tryz.prog 69 #[.agg #[.int .i64 a0_w.tick,.int .i64 a0_w.players,.int .i64 a0_w.nextid,.int .i64 a0_w.g.w,.int .i64 a0_w.g.h,v0,v1,v2]] w fun e w'=>e = .returned (.bool r)∧Ext w w':=by
 have hm0:=R_max h0
 obtain ⟨p0,c0,rfl⟩:=R_form h0
 have hm1:=R_max h1
 obtain ⟨p1,c1,rfl⟩:=R_form h1
 have hm2:=R_max h2
 obtain ⟨p2,c2,rfl⟩:=R_form h2
 unfold army_form0 at H
 refine te Tryz.func69 (Sat.start w) ?_
 refine T.seq fun _ k1=>T.region (RS.solid (Sd.box (cs:=[_,_,_,_,_,_,_,_]) rfl rfl) rfl rfl fun b1=>rA rfl (RS.nil (k1 _ _ ?_)))
 refine T.seq fun _ k2=>T.seq fun _ k3=>T.region (au 4 ?_)
 refine RS.joinV 4 10 (.bool (decide ((a0_w.tick < 0) ∨ (1099511627776 < a0_w.tick)))) [(1,_)] sb ?_ ?_
 ·refine rM rfl ?_
  refine RS.joinV 4 15 (.bool (decide (((a0_w.tick < 0) ∨ (1099511627776 < a0_w.tick)) ∨ (a0_w.players < 1)))) [(1,_)] sb ?_ ?_
  ·refine rM rfl ?_
   refine RS.joinV 4 20 (.bool (decide ((((a0_w.tick < 0) ∨ (1099511627776 < a0_w.tick)) ∨ (a0_w.players < 1)) ∨ (8 < a0_w.players)))) [(1,_)] sb ?_ ?_
   ·refine rM rfl ?_
    refine RS.joinV 4 25 (.bool (decide (((((a0_w.tick < 0) ∨ (1099511627776 < a0_w.tick)) ∨ (a0_w.players < 1)) ∨ (8 < a0_w.players)) ∨ (a0_w.nextid < 1)))) [(1,_)] sb ?_ ?_
    ·refine rM rfl ?_
     refine RS.joinV 4 30 (.bool (decide ((((((a0_w.tick < 0) ∨ (1099511627776 < a0_w.tick)) ∨ (a0_w.players < 1)) ∨ (8 < a0_w.players)) ∨ (a0_w.nextid < 1)) ∨ (1099511627776 < a0_w.nextid)))) [(1,_)] sb ?_ ?_
     ·refine RS.nil (k3 _ _ ?_)
      refine T.cP H rfl (fun hc12 H=>?_) (fun hc12 H=>?_)
      ·refine au 2 ?_
       obtain rfl:=sj H
       refine T.rt (Cont.ret1 rfl rfl fun w' s=>?_)
       exact ⟨rfl,s.ext⟩
      refine T.skip (k2 _ _ ?_)
      refine T.seq fun _ k5=>T.seq fun _ k6=>T.region (au 2 ?_)
      obtain ⟨x13,hx13,H⟩:=bindE H
      refine rq (Qt.call (vs:=[_]) ent31 rfl fun w s=>ground_May_walk a0_w.g w ((Rd.base h0) w s) hx13) (au 2 ?_)
      refine RS.joinB H 7 42 (fun b16=>.bool b16) [(1,_)] sb ?_ ?_
      ·intro b16 H
       refine rM rfl ?_
       refine RS.joinV 5 48 (.bool (decide ((b16 = true) ∨ (4096 < (a0_w.us.length:Int))))) [(1,_)] sb ?_ ?_
       ·refine RS.nil (k6 _ _ ?_)
        refine T.cP H rfl (fun hc19 H=>?_) (fun hc19 H=>?_)
        ·refine au 2 ?_
         obtain rfl:=sj H
         refine T.rt (Cont.ret1 rfl rfl fun w' s=>?_)
         exact ⟨rfl,s.ext⟩
        refine T.skip (k5 _ _ ?_)
        refine T.seq fun _ k8=>T.region (au 2 ?_)
        refine rp (Pu.makeFunc rfl) ?_
        obtain ⟨x20,hx20,H⟩:=bindE H
        refine rq (Qt.call (vs:=[_,_]) ent112 rfl fun w s=>slices_ContainsFuncB_walk a0_w.bs (fun y0=>army_form0_1 y0 a0_w) w ((Rd.base h1) w s) (⟨113,_,rfl,ent113,fun y0 r w' he hr=>army_form0_1_walk y0 a0_w w' (blk_ext he (blk_of s (k:=0) rfl)) (Enc.mono he.hp ((Rd.base h0) w s)) (Enc.mono he.hp ((Rd.base h1) w s)) (Enc.mono he.hp ((Rd.base h2) w s)) hr⟩) hx20) (au 2 ?_)
        refine RS.nil (k8 _ _ (kq [2] ?_))
        obtain rfl:=sj H
        refine T.rt (Cont.ret1 rfl rfl fun w' s=>?_)
        exact ⟨rfl,s.ext⟩
       intro hJ18
       refine RS.split 43 rfl (fun hc17=>?_) (fun hc17=>?_)
       ·refine au 5 ?_
        exact hJ18 _ _ ⟨dOrT hc17,rfl,trivial⟩ (fun w s=>s)
       refine au 5 ?_
       exact hJ18 _ _ ⟨dOrF (bne_of hc17),rfl,trivial⟩ (fun w s=>s)
      intro z21 H hJ15
      refine RS.split 35 rfl (fun hc14=>?_) (fun hc14=>?_)
      ·have H:=ifT hc14 H
       refine au 7 ?_
       obtain rfl:=sj H
       exact hJ15 _ _ sb (fun w s=>s)
      have H:=ifB hc14 H
      refine au 4 ?_
      obtain ⟨x22,hx22,H⟩:=bindE H
      refine rq (Qt.call (vs:=[_,_]) ent111 rfl fun w s=>build_May_walk a0_w.g a0_w.bs w ((Rd.base h0) w s) ((Rd.base h1) w s) hx22) (au 2 ?_)
      obtain rfl:=sj H
      exact hJ15 _ _ sb (fun w s=>s)
     intro hJ11
     refine RS.splitP 26 rfl (fun hc10=>?_) (fun hc10=>?_)
     ·refine au 4 ?_
      exact hJ11 _ _ ⟨dOrT hc10,rfl,trivial⟩ (fun w s=>s)
     refine au 4 ?_
     exact hJ11 _ _ ⟨dOrF hc10,rfl,trivial⟩ (fun w s=>s)
    intro hJ9
    refine RS.splitP 21 rfl (fun hc8=>?_) (fun hc8=>?_)
    ·refine au 4 ?_
     exact hJ9 _ _ ⟨dOrT hc8,rfl,trivial⟩ (fun w s=>s)
    refine au 4 ?_
    exact hJ9 _ _ ⟨dOrF hc8,rfl,trivial⟩ (fun w s=>s)
   intro hJ7
   refine RS.splitP 16 rfl (fun hc6=>?_) (fun hc6=>?_)
   ·refine au 4 ?_
    exact hJ7 _ _ ⟨dOrT hc6,rfl,trivial⟩ (fun w s=>s)
   refine au 4 ?_
   exact hJ7 _ _ ⟨dOrF hc6,rfl,trivial⟩ (fun w s=>s)
  intro hJ5
  refine RS.splitP 11 rfl (fun hc4=>?_) (fun hc4=>?_)
  ·refine au 4 ?_
   exact hJ5 _ _ ⟨dOrT hc4,rfl,trivial⟩ (fun w s=>s)
  refine au 4 ?_
  exact hJ5 _ _ ⟨dOrF hc4,rfl,trivial⟩ (fun w s=>s)
 intro hJ3
 refine RS.splitP 6 rfl (fun hc2=>?_) (fun hc2=>?_)
 ·refine au 4 ?_
  exact hJ3 _ _ ⟨dOrT hc2,rfl,trivial⟩ (fun w s=>s)
 refine au 4 ?_
 exact hJ3 _ _ ⟨dOrF hc2,rfl,trivial⟩ (fun w s=>s)
theorem world_New_walk (a0_g:Grd) (a1_players:Int) (w:World) {v0:Value} (h0:R (hpOf w) a0_g.tiles [v0]) {r:Wld × Int} (H:world_New a0_g a1_players = some r):Calls Tryz.prog 14 #[.agg #[.int .i64 a0_g.w,.int .i64 a0_g.h,v0],.int .i64 a1_players] w fun e w'=>∃ g:(Option Nat × Nat) × (Option Nat × Nat) × (Option Nat × Nat),e = .returned (.tuple #[.agg #[.int .i64 r.1.tick,.int .i64 r.1.players,.int .i64 r.1.nextid,.int .i64 r.1.g.w,.int .i64 r.1.g.h,rowV g.1 r.1.g.tiles.length,rowV g.2.1 r.1.bs.length,rowV g.2.2 r.1.us.length],.int .i64 r.2])∧Sat w [row nilH 5 (rowV g.1 r.1.g.tiles.length) r.1.g.tiles,row nilH 135 (rowV g.2.1 r.1.bs.length) r.1.bs,row nilH 54 (rowV g.2.2 r.1.us.length) r.1.us] w':=by
 have hm0:=R_max h0
 obtain ⟨p0,c0,rfl⟩:=R_form h0
 unfold world_New at H
 refine te Tryz.func14 (Sat.start w) ?_
 refine T.seq fun _ k1=>T.region (RS.solid (Sd.box (cs:=[_,_,_]) rfl rfl) rfl rfl fun b1=>RS.solid (Sd.alloc zr52 rfl) rfl rfl fun b2=>rA rfl (RS.nil (k1 _ _ ?_)))
 refine T.seq fun _ k2=>T.seq fun _ k3=>T.region (rq (Qt.ldBA (us:=[_,_,_]) 0 ty24.h rfl rfl rfl rfl) ?_)
 obtain ⟨x3,hx3,H⟩:=bindE H
 refine rq (Qt.call (vs:=[_]) ent31 rfl fun w s=>ground_May_walk a0_g w ((Rd.base h0) w s) hx3) (au 2 ?_)
 refine RS.joinV 3 12 (.bool (decide (((!x3) = true) ∨ (a1_players < 1)))) [(1,_),(2,_),(4,_)] sb ?_ ?_
 ·refine rM rfl ?_
  refine RS.joinV 3 16 (.bool (decide ((((!x3) = true) ∨ (a1_players < 1)) ∨ (8 < a1_players)))) [(1,_),(2,_),(4,_)] sb ?_ ?_
  ·refine RS.nil (k3 _ _ ?_)
   refine T.cP H rfl (fun hc8 H=>?_) (fun hc8 H=>?_)
   ·refine kq [4] ?_
    refine T.seq fun _ k4=>T.region (rp (Pu.build (cells:=[_,_,_,_,_,_,_,_]) st52 rfl rfl) (au 2 ?_))
    refine RS.nil (k4 _ _ ?_)
    obtain rfl:=sj H
    refine T.rt (Cont.retCT 1 rfl ty52.h rfl rfl rfl rfl fun w' s=>?_)
    exact ⟨⟨(none,0),(none,0),(none,0)⟩,rfl,(((s.nilRow (α:=UInt8) 5).nilRow (α:=Bld) 135).nilRow (α:=Unt) 54).pick [2,3,4] (by decide) rfl⟩
   refine T.skip (k2 _ _ ?_)
   refine T.seq fun _ k5=>T.region (au 2 ?_)
   obtain ⟨x9,hx9,H⟩:=bindE H
   refine RS.solid (Sd.callN (vs:=[_]) ent32 rfl (fun w s=>ground_Own_walk a0_g w ((Rd.base h0) w s) hx9)) rfl rfl fun q10=>rp (Pu.build (cells:=[_,_,_,_,_,_,_,_]) st52 rfl rfl) (au 2 ?_)
   refine RS.nil (k5 _ _ (kq [4,5] ?_))
   obtain rfl:=sj H
   refine T.rt (Cont.retCT 1 rfl ty52.h rfl rfl rfl rfl fun w' s=>?_)
   exact ⟨⟨q10,(none,0),(none,0)⟩,rfl,((s.nilRow (α:=Bld) 135).nilRow (α:=Unt) 54).pick [2,3,4] (by decide) rfl⟩
  intro hJ7
  refine RS.splitP 13 rfl (fun hc6=>?_) (fun hc6=>?_)
  ·refine au 3 ?_
   exact hJ7 _ _ ⟨dOrT hc6,rfl,rfl,rfl,trivial⟩ (fun w s=>s)
  refine au 3 ?_
  exact hJ7 _ _ ⟨dOrF hc6,rfl,rfl,rfl,trivial⟩ (fun w s=>s)
 intro hJ5
 refine RS.split 9 rfl (fun hc4=>?_) (fun hc4=>?_)
 ·refine au 3 ?_
  exact hJ5 _ _ ⟨dOrT hc4,rfl,rfl,rfl,trivial⟩ (fun w s=>s)
 refine au 3 ?_
 exact hJ5 _ _ ⟨dOrF (bne_of hc4),rfl,rfl,rfl,trivial⟩ (fun w s=>s)
theorem command_only_walk (a0_c:Cmd) (w:World) {v0:Value} (B0:Hp) (hB0:B0.le (hpOf w)) (h0:R B0 a0_c.units [v0]) {r:Cmd × Bool} (H:command_only a0_c = some r):Calls Tryz.prog 124 #[.agg #[.int .i64 a0_c.player,.int .i64 a0_c.seq,.int .i64 a0_c.kind,.int .i64 a0_c.n,v0,.int .i64 a0_c.tile,.int .i64 a0_c.w,.int .i64 a0_c.h,.int .i64 a0_c.pos.x,.int .i64 a0_c.pos.y]] w fun e w'=>∃ u1:Value,e = .returned (.tuple #[.agg #[.int .i64 r.1.player,.int .i64 r.1.seq,.int .i64 r.1.kind,.int .i64 r.1.n,u1,.int .i64 r.1.tile,.int .i64 r.1.w,.int .i64 r.1.h,.int .i64 r.1.pos.x,.int .i64 r.1.pos.y],.bool r.2])∧Sat w [pc (R B0 (r.1.units:List Int) [u1])] w':=by
 have hm0:=R_max h0
 obtain ⟨p0,c0,rfl⟩:=R_form h0
 have hb0:=Enc.mono hB0 h0
 unfold command_only at H
 refine te Tryz.func124 (Sat.start w) ?_
 refine T.seq fun _ k1=>T.region (RS.solid (Sd.box (cs:=[_,_,_,_,_,_,_,_,_,_]) rfl rfl) rfl rfl fun b1=>RS.solid (Sd.alloc zr37 rfl) rfl rfl fun b2=>rA rfl (RS.nil (k1 _ _ ?_)))
 refine T.seq fun _ k2=>T.region (au 6 ?_)
 refine rp (Pu.build (cells:=[_,_,_,_,_,_,_,_,_,_]) st37 rfl rfl) (RS.solid (Sd.stB (cs':=[_,_,_,_,_,_,_,_,_,_]) 1 ty37.h rfl rfl rfl rfl rfl rfl rfl rfl) rfl rfl fun _=>RS.nil (k2 _ _ (kq [1,2,3] ?_)))
 refine T.seq fun _ k3=>au 3 ?_
 refine T.block (au 3 ?_)
 refine T.cP H rfl (fun hc3 H=>?_) (fun hc3 H=>?_)
 ·refine kq [1,2] ?_
  refine T.seq fun _ k6=>drS mixed [0] [0,1,0,2,0,4,0,4] ?_
  refine au 8 ?_
  refine RD.nil (k6 _ _ (kq [1,2] ?_))
  refine T.region (au 2 ?_)
  obtain ⟨x4,hx4,H⟩:=bindE H
  refine rq (Qt.call (vs:=[_]) ent114 rfl fun w s=>kind_May_walk a0_c.n w  hx4) (rM rfl ?_)
  refine RS.joinB H 4 28 (fun b7=>.bool b7) [(2,_)] sb ?_ ?_
  ·intro b7 H
   refine rA rfl (RS.nil (k3 _ _ ?_))
   refine T.seq fun _ k7=>T.region (au 4 ?_)
   refine RS.nil (k7 _ _ (kq [2,3] ?_))
   obtain rfl:=sj H
   refine T.rt (Cont.retCT 1 rfl ty37.h rfl rfl rfl rfl fun w' s=>?_)
   exact ⟨.slice none 0 0,rfl,(s.addPc ⟨none,0,rfl,by simp,by decide,.inl rfl⟩).pick [2] (by decide) rfl⟩
  intro z8 H hJ6
  refine RS.split 24 rfl (fun hc5=>?_) (fun hc5=>?_)
  ·have H:=ifT hc5 H
   refine au 2 ?_
   obtain ⟨x9,hx9,H⟩:=bindE H
   refine rq (Qt.call (vs:=[_]) ent184 rfl fun w s=>disc_Place_walk a0_c.pos w  hx9) (rp (Pu.pickT rfl rfl) ?_)
   obtain rfl:=sj H
   exact hJ6 _ _ sb (fun w s=>s)
  have H:=ifB hc5 H
  refine au 4 ?_
  obtain rfl:=sj H
  exact hJ6 _ _ sb (fun w s=>s)
 refine kq [1,2,3,12] ?_
 refine au 3 ?_
 refine T.cP H rfl (fun hc10 H=>?_) (fun hc10 H=>?_)
 ·refine kq [1,2] ?_
  refine T.seq fun _ k9=>drS mixed [0] [0,1,0,2,0,4,0,4] ?_
  refine au 8 ?_
  refine RD.nil (k9 _ _ (kq [1,2] ?_))
  refine T.region (au 2 ?_)
  obtain ⟨x11,hx11,H⟩:=bindE H
  refine rq (Qt.call (vs:=[_]) ent185 rfl fun w s=>command_units_walk a0_c.units w ((Rd.base hb0) w s) hx11) (rM rfl ?_)
  refine RS.joinB H 4 44 (fun b14=>.bool b14) [(2,_)] sb ?_ ?_
  ·intro b14 H
   refine rA rfl (RS.nil (k3 _ _ ?_))
   refine T.seq fun _ k10=>T.region (au 4 ?_)
   refine RS.nil (k10 _ _ (kq [2,3] ?_))
   obtain rfl:=sj H
   refine T.rt (Cont.retCT 1 rfl ty37.h rfl rfl rfl rfl fun w' s=>?_)
   exact ⟨.slice p0 a0_c.units.length c0,rfl,(s.addPc h0).pick [2] (by decide) rfl⟩
  intro z15 H hJ13
  refine RS.split 40 rfl (fun hc12=>?_) (fun hc12=>?_)
  ·have H:=ifT hc12 H
   refine au 2 ?_
   obtain ⟨x16,hx16,H⟩:=bindE H
   refine rq (Qt.call (vs:=[_,_,_]) ent125 rfl fun w s=>command_within_walk a0_c.tile 0 16383 w  hx16) (rp (Pu.pickT rfl rfl) ?_)
   obtain rfl:=sj H
   exact hJ13 _ _ sb (fun w s=>s)
  have H:=ifB hc12 H
  refine au 4 ?_
  obtain rfl:=sj H
  exact hJ13 _ _ sb (fun w s=>s)
 refine au 3 ?_
 refine T.cP H rfl (fun hc17 H=>?_) (fun hc17 H=>?_)
 ·refine kq [1,2] ?_
  refine T.seq fun _ k12=>T.region (au 4 ?_)
  refine RS.nil (k12 _ _ (kq [1,2] ?_))
  refine T.region (au 2 ?_)
  obtain ⟨x18,hx18,H⟩:=bindE H
  refine rq (Qt.call (vs:=[_]) ent185 rfl fun w s=>command_units_walk a0_c.units w ((Rd.base hb0) w s) hx18) (rA rfl (RS.nil (k3 _ _ (kq [2,3] ?_))))
  refine au 5 ?_
  obtain rfl:=sj H
  refine T.rt (Cont.retCT 1 rfl ty37.h rfl rfl rfl rfl fun w' s=>?_)
  exact ⟨.slice p0 a0_c.units.length c0,rfl,(s.addPc h0).pick [2] (by decide) rfl⟩
 refine kq [1,2,3,12] ?_
 refine au 3 ?_
 refine T.cP H rfl (fun hc19 H=>?_) (fun hc19 H=>?_)
 ·refine kq [1,2] ?_
  refine T.seq fun _ k15=>drS mixed [0] [0,1,0,2,0,2,0,4,0,4,0,4] ?_
  refine au 12 ?_
  refine RD.nil (k15 _ _ (kq [1,2] ?_))
  refine T.region (au 2 ?_)
  obtain ⟨x20,hx20,H⟩:=bindE H
  refine rq (Qt.call (vs:=[_,_,_]) ent125 rfl fun w s=>command_within_walk a0_c.tile 0 16383 w  hx20) (rM rfl ?_)
  refine RS.joinB H 4 71 (fun b23=>.bool b23) [(1,_),(2,_)] sb ?_ ?_
  ·intro b23 H
   refine rM rfl ?_
   refine RS.joinB H 4 76 (fun b26=>.bool b26) [(2,_)] sb ?_ ?_
   ·intro b26 H
    refine rA rfl (RS.nil (k3 _ _ ?_))
    refine T.seq fun _ k16=>T.region (au 4 ?_)
    refine RS.nil (k16 _ _ (kq [2,3] ?_))
    obtain rfl:=sj H
    refine T.rt (Cont.retCT 1 rfl ty37.h rfl rfl rfl rfl fun w' s=>?_)
    exact ⟨.slice none 0 0,rfl,(s.addPc ⟨none,0,rfl,by simp,by decide,.inl rfl⟩).pick [2] (by decide) rfl⟩
   intro z27 H hJ25
   refine RS.split 72 rfl (fun hc24=>?_) (fun hc24=>?_)
   ·have H:=ifT hc24 H
    refine au 2 ?_
    obtain ⟨x28,hx28,H⟩:=bindE H
    refine rq (Qt.call (vs:=[_,_,_]) ent125 rfl fun w s=>command_within_walk a0_c.h 1 4 w  hx28) (rp (Pu.pickT rfl rfl) ?_)
    obtain rfl:=sj H
    exact hJ25 _ _ sb (fun w s=>s)
   have H:=ifB hc24 H
   refine au 4 ?_
   obtain rfl:=sj H
   exact hJ25 _ _ sb (fun w s=>s)
  intro z29 H hJ22
  refine RS.split 67 rfl (fun hc21=>?_) (fun hc21=>?_)
  ·have H:=ifT hc21 H
   refine au 2 ?_
   obtain ⟨x30,hx30,H⟩:=bindE H
   refine rq (Qt.call (vs:=[_,_,_]) ent125 rfl fun w s=>command_within_walk a0_c.w 1 4 w  hx30) (rp (Pu.pickT rfl rfl) ?_)
   obtain rfl:=sj H
   exact hJ22 _ _ sb (fun w s=>s)
  have H:=ifB hc21 H
  refine au 4 ?_
  obtain rfl:=sj H
  exact hJ22 _ _ sb (fun w s=>s)
 refine au 3 ?_
 refine T.cP H rfl (fun hc31 H=>?_) (fun hc31 H=>?_)
 ·refine kq [1,2] ?_
  refine T.seq fun _ k18=>T.region (au 4 ?_)
  refine RS.nil (k18 _ _ (kq [1,2] ?_))
  refine T.region (au 2 ?_)
  obtain ⟨x32,hx32,H⟩:=bindE H
  refine rq (Qt.call (vs:=[_,_,_]) ent125 rfl fun w s=>command_within_walk a0_c.n 1 1099511627776 w  hx32) (rA rfl (RS.nil (k3 _ _ (kq [2,3] ?_))))
  refine au 5 ?_
  obtain rfl:=sj H
  refine T.rt (Cont.retCT 1 rfl ty37.h rfl rfl rfl rfl fun w' s=>?_)
  exact ⟨.slice none 0 0,rfl,(s.addPc ⟨none,0,rfl,by simp,by decide,.inl rfl⟩).pick [2] (by decide) rfl⟩
 refine kq [1,2,3,12] ?_
 refine au 3 ?_
 refine T.cP H rfl (fun hc33 H=>?_) (fun hc33 H=>?_)
 ·refine kq [1,2] ?_
  refine T.seq fun _ k21=>drS mixed [0] [0,1,0,2,0,4,0,4] ?_
  refine au 8 ?_
  refine RD.nil (k21 _ _ (kq [1,2] ?_))
  refine T.region (au 2 ?_)
  obtain ⟨x34,hx34,H⟩:=bindE H
  refine rq (Qt.call (vs:=[_]) ent185 rfl fun w s=>command_units_walk a0_c.units w ((Rd.base hb0) w s) hx34) (rM rfl ?_)
  refine RS.joinB H 4 100 (fun b37=>.bool b37) [(2,_)] sb ?_ ?_
  ·intro b37 H
   refine rA rfl (RS.nil (k3 _ _ ?_))
   refine T.seq fun _ k22=>T.region (au 4 ?_)
   refine RS.nil (k22 _ _ (kq [2,3] ?_))
   obtain rfl:=sj H
   refine T.rt (Cont.retCT 1 rfl ty37.h rfl rfl rfl rfl fun w' s=>?_)
   exact ⟨.slice p0 a0_c.units.length c0,rfl,(s.addPc h0).pick [2] (by decide) rfl⟩
  intro z38 H hJ36
  refine RS.split 96 rfl (fun hc35=>?_) (fun hc35=>?_)
  ·have H:=ifT hc35 H
   refine au 2 ?_
   obtain ⟨x39,hx39,H⟩:=bindE H
   refine rq (Qt.call (vs:=[_,_,_]) ent125 rfl fun w s=>command_within_walk a0_c.n 1 1099511627776 w  hx39) (rp (Pu.pickT rfl rfl) ?_)
   obtain rfl:=sj H
   exact hJ36 _ _ sb (fun w s=>s)
  have H:=ifB hc35 H
  refine au 4 ?_
  obtain rfl:=sj H
  exact hJ36 _ _ sb (fun w s=>s)
 refine au 3 ?_
 refine T.cP H rfl (fun hc40 H=>?_) (fun hc40 H=>?_)
 ·refine kq [1,2] ?_
  refine T.seq fun _ k24=>drS mixed [0] [0,1,0,2,0,4,0,4] ?_
  refine au 8 ?_
  refine RD.nil (k24 _ _ (kq [1,2] ?_))
  refine T.region (au 2 ?_)
  obtain ⟨x41,hx41,H⟩:=bindE H
  refine rq (Qt.call (vs:=[_,_,_]) ent125 rfl fun w s=>command_within_walk a0_c.n 1 1099511627776 w  hx41) (rM rfl ?_)
  refine RS.joinB H 4 116 (fun b44=>.bool b44) [(2,_)] sb ?_ ?_
  ·intro b44 H
   refine rA rfl (RS.nil (k3 _ _ ?_))
   refine T.seq fun _ k25=>T.region (au 4 ?_)
   refine RS.nil (k25 _ _ (kq [2,3] ?_))
   obtain rfl:=sj H
   refine T.rt (Cont.retCT 1 rfl ty37.h rfl rfl rfl rfl fun w' s=>?_)
   exact ⟨.slice none 0 0,rfl,(s.addPc ⟨none,0,rfl,by simp,by decide,.inl rfl⟩).pick [2] (by decide) rfl⟩
  intro z45 H hJ43
  refine RS.split 112 rfl (fun hc42=>?_) (fun hc42=>?_)
  ·have H:=ifT hc42 H
   refine au 2 ?_
   obtain ⟨x46,hx46,H⟩:=bindE H
   refine rq (Qt.call (vs:=[_,_,_]) ent125 rfl fun w s=>command_within_walk a0_c.tile 0 16383 w  hx46) (rp (Pu.pickT rfl rfl) ?_)
   obtain rfl:=sj H
   exact hJ43 _ _ sb (fun w s=>s)
  have H:=ifB hc42 H
  refine au 4 ?_
  obtain rfl:=sj H
  exact hJ43 _ _ sb (fun w s=>s)
 refine T.skip (k3 _ _ (kq [2,3] ?_))
 refine au 5 ?_
 obtain rfl:=sj H
 refine T.rt (Cont.retCT 1 rfl ty37.h rfl rfl rfl rfl fun w' s=>?_)
 exact ⟨.slice none 0 0,rfl,(s.addPc ⟨none,0,rfl,by simp,by decide,.inl rfl⟩).pick [2] (by decide) rfl⟩
theorem command_May_walk (a0_c:Cmd) (w:World) {v0:Value} (h0:R (hpOf w) a0_c.units [v0]) {r:Bool} (H:command_May a0_c = some r):Calls Tryz.prog 76 #[.agg #[.int .i64 a0_c.player,.int .i64 a0_c.seq,.int .i64 a0_c.kind,.int .i64 a0_c.n,v0,.int .i64 a0_c.tile,.int .i64 a0_c.w,.int .i64 a0_c.h,.int .i64 a0_c.pos.x,.int .i64 a0_c.pos.y]] w fun e w'=>e = .returned (.bool r)∧Ext w w':=by
 have hm0:=R_max h0
 obtain ⟨p0,c0,rfl⟩:=R_form h0
 unfold command_May at H
 refine te Tryz.func76 (Sat.start w) ?_
 refine T.seq fun _ k1=>T.region (RS.solid (Sd.box (cs:=[_,_,_,_,_,_,_,_,_,_]) rfl rfl) rfl rfl fun b1=>rA rfl (RS.nil (k1 _ _ ?_)))
 refine T.seq fun _ k2=>T.region (rq (Qt.ldBA (us:=[_,_,_,_,_,_,_,_,_,_]) 0 ty37.h rfl rfl rfl rfl) ?_)
 obtain ⟨x2,hx2,H⟩:=bindE H
 refine RS.solid (Sd.callN (vs:=[_]) ent124 rfl (fun w s=>command_only_walk a0_c w (_) (s.ext.hp) (h0) hx2)) rfl rfl fun u3=>?_
 refine RS.know (fun w s=>s.getPc 1 rfl) fun hu4=>?_
 obtain ⟨p5,cc6,rfl⟩:=R_form hu4
 refine au 3 ?_
 refine RS.solid (Sd.alloc zr37 rfl) rfl rfl fun b7=>au 2 ?_
 refine RS.nil (k2 _ _ (kq [1,3,4] ?_))
 refine T.seq fun _ k3=>T.region (au 2 ?_)
 refine RS.joinB H 4 15 (fun b10=>.bool b10) [(1,_),(3,_)] sb ?_ ?_
 ·intro b10 H
  refine rM rfl ?_
  refine RS.joinB H 4 20 (fun b13=>.bool b13) [(1,_),(3,_)] sb ?_ ?_
  ·intro b13 H
   refine rM rfl ?_
   refine RS.joinV 6 27 (.bool (decide ((b13 = true)∧(x2.1.n = a0_c.n)))) [(1,_),(3,_)] sb ?_ ?_
   ·refine rM rfl ?_
    refine RS.joinV 6 34 (.bool (decide (((b13 = true)∧(x2.1.n = a0_c.n))∧(x2.1.pos = a0_c.pos)))) [(1,_),(3,_)] sb ?_ ?_
    ·refine rM rfl ?_
     refine RS.joinV 6 41 (.bool (decide ((((b13 = true)∧(x2.1.n = a0_c.n))∧(x2.1.pos = a0_c.pos))∧(x2.1.tile = a0_c.tile)))) [(1,_),(3,_)] sb ?_ ?_
     ·refine rM rfl ?_
      refine RS.joinV 6 48 (.bool (decide (((((b13 = true)∧(x2.1.n = a0_c.n))∧(x2.1.pos = a0_c.pos))∧(x2.1.tile = a0_c.tile))∧(x2.1.w = a0_c.w)))) [(1,_),(3,_)] sb ?_ ?_
      ·refine rM rfl ?_
       refine RS.joinV 6 55 (.bool (decide ((((((b13 = true)∧(x2.1.n = a0_c.n))∧(x2.1.pos = a0_c.pos))∧(x2.1.tile = a0_c.tile))∧(x2.1.w = a0_c.w))∧(x2.1.h = a0_c.h)))) [(1,_),(3,_)] sb ?_ ?_
       ·refine rM rfl ?_
        refine RS.joinV 8 64 (.bool (decide (((((((b13 = true)∧(x2.1.n = a0_c.n))∧(x2.1.pos = a0_c.pos))∧(x2.1.tile = a0_c.tile))∧(x2.1.w = a0_c.w))∧(x2.1.h = a0_c.h))∧((x2.1.units.length:Int) = (a0_c.units.length:Int))))) [] trivial ?_ ?_
        ·refine rA rfl (RS.nil (k3 _ _ ?_))
         obtain rfl:=sj H
         refine T.rt (Cont.ret1 rfl rfl fun w' s=>?_)
         exact ⟨rfl,s.ext⟩
        intro hJ25
        refine RS.splitP 56 rfl (fun hc24=>?_) (fun hc24=>?_)
        ·refine au 8 ?_
         exact hJ25 _ _ ⟨dAndT hc24,trivial⟩ (fun w s=>s)
        refine au 8 ?_
        exact hJ25 _ _ ⟨dAndF hc24,trivial⟩ (fun w s=>s)
       intro hJ23
       refine RS.splitP 49 rfl (fun hc22=>?_) (fun hc22=>?_)
       ·refine au 6 ?_
        exact hJ23 _ _ ⟨dAndT hc22,rfl,rfl,trivial⟩ (fun w s=>s)
       refine au 6 ?_
       exact hJ23 _ _ ⟨dAndF hc22,rfl,rfl,trivial⟩ (fun w s=>s)
      intro hJ21
      refine RS.splitP 42 rfl (fun hc20=>?_) (fun hc20=>?_)
      ·refine au 6 ?_
       exact hJ21 _ _ ⟨dAndT hc20,rfl,rfl,trivial⟩ (fun w s=>s)
      refine au 6 ?_
      exact hJ21 _ _ ⟨dAndF hc20,rfl,rfl,trivial⟩ (fun w s=>s)
     intro hJ19
     refine RS.splitP 35 rfl (fun hc18=>?_) (fun hc18=>?_)
     ·refine au 6 ?_
      exact hJ19 _ _ ⟨dAndT hc18,rfl,rfl,trivial⟩ (fun w s=>s)
     refine au 6 ?_
     exact hJ19 _ _ ⟨dAndF hc18,rfl,rfl,trivial⟩ (fun w s=>s)
    intro hJ17
    refine RS.splitP 28 rfl (fun hc16=>?_) (fun hc16=>?_)
    ·refine au 4 ?_
     refine rp (Pu.eqSt eqt33 rfl rfl rfl (eq_Vec x2.1.pos a0_c.pos)) (rp (Pu.pickT rfl rfl) ?_)
     exact hJ17 _ _ ⟨dAndT hc16,rfl,rfl,trivial⟩ (fun w s=>s)
    refine au 6 ?_
    exact hJ17 _ _ ⟨dAndF hc16,rfl,rfl,trivial⟩ (fun w s=>s)
   intro hJ15
   refine RS.split 21 rfl (fun hc14=>?_) (fun hc14=>?_)
   ·refine au 6 ?_
    exact hJ15 _ _ ⟨dAndT hc14,rfl,rfl,trivial⟩ (fun w s=>s)
   refine au 6 ?_
   exact hJ15 _ _ ⟨dAndF (bne_of hc14),rfl,rfl,trivial⟩ (fun w s=>s)
  intro z26 H hJ12
  refine RS.split 16 rfl (fun hc11=>?_) (fun hc11=>?_)
  ·have H:=ifT hc11 H
   refine au 2 ?_
   obtain ⟨x27,hx27,H⟩:=bindE H
   refine rq (Qt.call (vs:=[_,_,_]) ent125 rfl fun w s=>command_within_walk a0_c.seq 0 1099511627776 w  hx27) (rp (Pu.pickT rfl rfl) ?_)
   obtain rfl:=sj H
   exact hJ12 _ _ sb (fun w s=>s)
  have H:=ifB hc11 H
  refine au 4 ?_
  obtain rfl:=sj H
  exact hJ12 _ _ sb (fun w s=>s)
 intro z28 H hJ9
 refine RS.split 11 rfl (fun hc8=>?_) (fun hc8=>?_)
 ·have H:=ifT hc8 H
  refine au 2 ?_
  obtain ⟨x29,hx29,H⟩:=bindE H
  refine rq (Qt.call (vs:=[_,_,_]) ent125 rfl fun w s=>command_within_walk a0_c.player 1 8 w  hx29) (rp (Pu.pickT rfl rfl) ?_)
  obtain rfl:=sj H
  exact hJ9 _ _ sb (fun w s=>s)
 have H:=ifB hc8 H
 refine au 4 ?_
 obtain rfl:=sj H
 exact hJ9 _ _ sb (fun w s=>s)
theorem command_Own_walk (a0_c:Cmd) (w:World) {v0:Value} (h0:R (hpOf w) a0_c.units [v0]) {r:Cmd} (H:command_Own a0_c = some r):Calls Tryz.prog 153 #[.agg #[.int .i64 a0_c.player,.int .i64 a0_c.seq,.int .i64 a0_c.kind,.int .i64 a0_c.n,v0,.int .i64 a0_c.tile,.int .i64 a0_c.w,.int .i64 a0_c.h,.int .i64 a0_c.pos.x,.int .i64 a0_c.pos.y]] w fun e w'=>∃ q1:(Option Nat × Nat),e = .returned (.agg #[.int .i64 r.player,.int .i64 r.seq,.int .i64 r.kind,.int .i64 r.n,rowV q1 r.units.length,.int .i64 r.tile,.int .i64 r.w,.int .i64 r.h,.int .i64 r.pos.x,.int .i64 r.pos.y])∧Sat w [row nilH 3 (rowV q1 r.units.length) r.units] w':=by
 have hm0:=R_max h0
 obtain ⟨p0,c0,rfl⟩:=R_form h0
 unfold command_Own at H
 refine te Tryz.func153 (Sat.start w) ?_
 refine T.seq fun _ k1=>T.region (RS.solid (Sd.box (cs:=[_,_,_,_,_,_,_,_,_,_]) rfl rfl) rfl rfl fun b1=>RS.solid (Sd.alloc zr37 rfl) rfl rfl fun b2=>RS.nil (k1 _ _ ?_))
 refine T.seq fun _ k2=>T.region (au 2 ?_)
 obtain ⟨x3,hx3,H⟩:=bindE H
 refine RS.solid (Sd.callN (vs:=[_]) ent222 rfl (fun w s=>slices_Clone_Int_walk a0_c.units w ((Rd.base h0) w s) hx3)) rfl rfl fun q4=>au 2 ?_
 refine RS.nil (k2 _ _ (kq [1,2] ?_))
 refine au 3 ?_
 obtain rfl:=sj H
 refine T.rt (Cont.retC 1 rfl ty37.h rfl rfl rfl fun w' s=>?_)
 exact ⟨q4,rfl,s.pc [2]⟩
theorem command_OwnAll_walk (a0_l:List Cmd) (w:World) {v0:Value} (h0:R (hpOf w) a0_l [v0]) {r:List Cmd} (H:command_OwnAll a0_l = some r):Calls Tryz.prog 104 #[v0] w fun e w'=>∃ q1:(Option Nat × Nat),e = .returned (rowV q1 r.length)∧Sat w [drow 37 (rowV q1 r.length) r] w':=by
 have hm0:=R_max h0
 obtain ⟨p0,c0,rfl⟩:=R_form h0
 unfold command_OwnAll at H
 refine te Tryz.func104 (Sat.start w) ?_
 refine au 2 ?_
 refine T.seq fun _ k2=>au 4 ?_
 refine T.joinE (σ:=List Cmd) (γ:=(Option Nat × Nat)) H (fun s=>s) [] trivial (fun v2 q3=>[(2,rowV q3 v2.length)]) (fun v2 q3=>Sat w [drow 37 (rowV q3 v2.length) v2]) ?_ ?_
 ·rintro v2 q3 H
  try dsimp only [Ex.then] at H
  refine Cont.kq [2] ?_
  refine id (k2 _ _ ?_)
  refine au 3 ?_
  obtain rfl:=sj H
  refine T.rt (Cont.ret1 rfl rfl fun w' s=>?_)
  exact ⟨q3,rfl,s.pc [0]⟩
 intro z1 hz1 HX1 hJ1
 refine T.block ?_
 refine T.loopA (γ:=(Option Nat × Nat)) hz1 [(5,_),(6,_)] (fun (l4,v6) q5=>[(2,rowV q5 l4.length),(7,.int .i64 v6)]) (fun (l4,v6) q5=>Sat w [drow 37 (rowV q5 l4.length) l4]) (none,0) sb sb (fun w s=>(s.nilRowG (α:=Cmd) 37).pick [0] (by decide) rfl) ?_
 rintro ⟨l4,v6⟩ q5 y7 H hd1 KL1 hL1
 try dsimp only [Ex.then] at H
 refine kq [2,7,5,6] ?_
 refine au 2 ?_
 refine T.seq fun _ k6=>?_
 refine T.cP H rfl (fun hc8 H=>?_) (fun hc8 H=>?_)
 ·refine T.skip (k6 _ _ ?_)
  refine T.seq fun _ k7=>T.block (T.seq fun _ k8=>T.region ?_)
  obtain ⟨g9,H⟩:=gdE H
  obtain ⟨bl10,ol11,rfl⟩:=R_ptr h0 (ne_of_pos (pos_of g9))
  refine rp (Pu.indexSl sl29.h rfl rfl g9) ?_
  obtain ⟨c12,hc13,ha14⟩:=R_el (α:=Cmd) h0 g9
  obtain ⟨u15,rfl,hu15⟩:=hc13
  obtain ⟨p16,cc17,rfl⟩:=R_form hu15
  refine rq (Qt.ldZ (cs:=[_,_,_,_,_,_,_,_,_,_]) ty37.h rfl ha14 Held.base rfl) (RS.solid (Sd.alloc zr37 rfl) rfl rfl fun b18=>RS.solid (Sd.stB (cs':=[_,_,_,_,_,_,_,_,_,_]) 1 ty37.h rfl rfl rfl rfl rfl rfl rfl rfl) rfl rfl fun _=>RS.nil (k8 _ _ (kq [2,4,5,6,7] ?_)))
  refine T.region (au 2 ?_)
  obtain ⟨x19,hx19,H⟩:=bindE H
  refine RS.solid (Sd.callN (vs:=[_]) ent153 rfl (fun w s=>command_Own_walk (gi a0_l v6) w ((Rd.base hu15) w s) hx19)) rfl rfl fun q20=>RS.solid (Sd.litS (cs:=[_,_,_,_,_,_,_,_,_,_]) sl29.h zr37 rfl rfl rfl rfl rfl) rfl rfl fun b21=>?_
  obtain ⟨g23,H⟩:=gdE H
  refine RS.solid (Sd.pre (fun w s=>(Sat.starAt 2 4 (Sat.starAt 2 5 ((s.noStars).noStars) rfl rfl (by decide)) rfl rfl (by decide))) (Sd.appL (α:=Cmd) 0 3 2 ([x19]:List Cmd) rfl rfl rfl (DRF.cons' (α:=Cmd) (x:=x19) (fun _ h=>⟨_,rfl,h⟩) DRF.nil') rfl sl29.h zr37 rfl rfl rfl rfl g23 (by decide))) rfl rfl fun q22=>rA rfl (RS.nil (k7 _ _ (kq [2,5,6,7] ?_)))
  refine T.region ?_
  obtain ⟨g24,H⟩:=gdE H
  refine rp (Pu.addS rfl rfl g24) (rM rfl (RS.nil (hL1 _ _ ((l4 ++ ([x19]:List Cmd)),(v6 + 1)) q22 H sb sb (fun w s=>s.pc [0]))))
 obtain rfl:=hd1 _ H
 refine T.xt (hJ1 _ _ l4 q5 HX1 trivial sb (fun w s=>s))
end Go.Proofs.YtmngdgclldkcfaaGreat
set_option linter.unusedVariables false
set_option linter.unusedSimpArgs false
set_option maxRecDepth 20000
set_option maxHeartbeats 4000000
namespace Go.Proofs.YtmngdgclldkcfaaGreat
open Go.Vg
open Enc (R)
instance sl87:SlC Tryz.prog 87 (112,1,8):={}
theorem zr112:zeroOf Tryz.prog 112 = some (.int .u64 0):=by kernel_rfl
theorem cloneU64_calls_nil {l:List UInt64} {n c:Nat} (w:World) (hA:R (hpOf w) l [.slice none n c]):Calls Tryz.prog 224 #[.slice none n c] w fun e w'=>∃ q:Option Nat × Nat,e = .returned (rowV q l.length)∧Sat w [row nilH 112 (rowV q l.length) l] w':=by
 refine T.enter (args:=[.slice none n c]) (S:=Sat w []) Tryz.func224 rfl rfl (Sat.start w) ?_
 refine au 2 ?_
 refine T.seq fun _ k2=>T.seq fun _ k3=>T.region (rM rfl (rp (Pu.eqNilSl usl87 rfl) (RS.nil (k3 _ _ ?_))))
 refine T.cond rfl (fun hc4=>?_) (fun hc4=>?_)
 ·refine kq [] ?_
  refine au 2 ?_
  refine T.retTo (by with_reducible ((repeat (first | apply RetTo.seq | apply RetTo.blk)); exact RetTo.refl _)) (Cont.ret1 rfl rfl fun w' s=>?_)
  have hl0:l = []:=by
   obtain ⟨p',c',e',s1,s2,s3⟩:=hA
   simp only [List.cons.injEq,Value.slice.injEq,and_true] at e'
   obtain ⟨rfl,rfl,rfl⟩:=e'
   rcases s3 with h | ⟨b,o,cs,h,_⟩
   ·exact h
   cases h
  subst hl0
  exact ⟨(none,0),rfl,s.addEmpty _ (fun p=>.inl ⟨rfl,rfl⟩)⟩
 exact absurd hc4 (by simp) -- end
theorem cloneU64_calls_some {l:List UInt64} {a:Addr} {n c:Nat} (hsz:n < 1099511627776) (w:World) (hA:R (hpOf w) l [.slice (some a) n c]):Calls Tryz.prog 224 #[.slice (some a) n c] w fun e w'=>∃ q:Option Nat × Nat,e = .returned (rowV q l.length)∧Sat w [row nilH 112 (rowV q l.length) l] w':=by
 refine T.enter (args:=[.slice (some a) n c]) (S:=Sat w []) Tryz.func224 rfl rfl (Sat.start w) ?_
 refine au 2 ?_
 refine T.seq fun _ k2=>T.seq fun _ k3=>T.region (rM rfl (rp (Pu.eqNilSl usl87 rfl) (RS.nil (k3 _ _ ?_))))
 refine T.cond rfl (fun hc4=>?_) (fun hc4=>?_)
 ·exact absurd hc4 (by simp) -- end
 refine T.skip (k2 _ _ (kq [0] ?_))
 refine T.seq fun _ k4=>T.region (RS.solid (Sd.lit0 (α:=UInt64) (B:=nilH) sl87.h) rfl rfl fun b5=>rM rfl (RS.solid (Sd.appB (α:=UInt64) 0 (nilH_lt _) rfl sl87.h zr112 rfl rfl rfl hA (by simp only [List.length_nil]; omega) (by simp only [List.length_nil]; unfold maxLen; omega)) rfl rfl fun q7=>rA rfl (RS.nil (k4 _ _ (kq [2] ?_)))))
 refine T.retTo (by with_reducible ((repeat (first | apply RetTo.seq | apply RetTo.blk)); exact RetTo.refl _)) (Cont.ret1 rfl rfl fun w' s=>?_)
 have hn:n = l.length:=(R_len hA).1
 simp only [List.length_nil,Nat.zero_add,List.nil_append] at s
 subst hn
 exact ⟨q7,by simp,s.pick (G':=[_]) [0] (by decide) rfl⟩
theorem cloneU64_calls {l:List UInt64} {v:Value} (hsz:l.length < 1099511627776) (w:World) (hA:R (hpOf w) l [v]):Calls Tryz.prog 224 #[v] w fun e w'=>∃ q:Option Nat × Nat,e = .returned (rowV q l.length)∧Sat w [row nilH 112 (rowV q l.length) l] w':=by
 obtain ⟨p,c,rfl⟩:=R_form hA
 cases p with
 | none=>exact cloneU64_calls_nil w hA
 | some a=>exact cloneU64_calls_some hsz w hA
def slices_Clone_U64 (l:List UInt64):Option (List UInt64):=if l.length < 1099511627776 then some l else none
theorem slices_Clone_U64_walk (l:List UInt64) (w:World) {v0:Value} (h0:R (hpOf w) l [v0]) {r:List UInt64} (H:slices_Clone_U64 l = some r):Calls Tryz.prog 224 #[v0] w fun e w'=>∃ g:(Option Nat × Nat),e = .returned (rowV g r.length)∧Sat w [row nilH 112 (rowV g r.length) r] w':=by
 unfold slices_Clone_U64 at H
 obtain ⟨h1,H⟩:=gdE H
 obtain rfl:=sj H
 exact cloneU64_calls h1 w h0
end Go.Proofs.YtmngdgclldkcfaaGreat
