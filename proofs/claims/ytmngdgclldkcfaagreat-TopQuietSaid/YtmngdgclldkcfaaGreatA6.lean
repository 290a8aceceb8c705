/-
  Texts of one's own, joined: WH SEH TJ IH.
-/
import Derived.Test.YtmngdgclldkcfaaGreatRows
import Derived.Test.YtmngdgclldkcfaaGreatW3
import Derived.Test.YtmngdgclldkcfaaGreatA4
import Derived.Test.YtmngdgclldkcfaaGreatA2
import Derived.Test.YtmngdgclldkcfaaGreatA3
set_option linter.unusedVariables false
set_option linter.unusedSimpArgs false
set_option maxRecDepth 20000
set_option maxHeartbeats 4000000
namespace Go.Proofs.YtmngdgclldkcfaaGreat
open Go.Vg
open Enc (R)
theorem army_Own_walk (a0_w:Wld) (w:World) {v0 v1 v2:Value} (h0:R (hpOf w) a0_w.g.tiles [v0]) (h1:R (hpOf w) a0_w.bs [v1]) (h2:R (hpOf w) a0_w.us [v2]) {r:Wld} (H:army_Own a0_w = some r):Calls Tryz.prog 38 #[.agg #[.int .i64 a0_w.tick,.int .i64 a0_w.players,.int .i64 a0_w.nextid,.int .i64 a0_w.g.w,.int .i64 a0_w.g.h,v0,v1,v2]] w fun e w'=>∃ g:(Option Nat × Nat) × (Option Nat × Nat) × (Option Nat × Nat),e = .returned (.agg #[.int .i64 r.tick,.int .i64 r.players,.int .i64 r.nextid,.int .i64 r.g.w,.int .i64 r.g.h,rowV g.1 r.g.tiles.length,rowV g.2.1 r.bs.length,rowV g.2.2 r.us.length])∧Sat w [row nilH 5 (rowV g.1 r.g.tiles.length) r.g.tiles,row nilH 135 (rowV g.2.1 r.bs.length) r.bs,row nilH 54 (rowV g.2.2 r.us.length) r.us] w':=by
 have hm0:=R_max h0
 obtain ⟨p0,c0,rfl⟩:=R_form h0
 have hm1:=R_max h1
 obtain ⟨p1,c1,rfl⟩:=R_form h1
 have hm2:=R_max h2
 obtain ⟨p2,c2,rfl⟩:=R_form h2
 unfold army_Own at H
 refine T.enter (args:=[_]) (S:=Sat w []) Tryz.func38 rfl rfl (Sat.start w) ?_
 refine T.seq fun K1 hK1=>T.region (RS.solid (Sd.box (cs:=[_,_,_,_,_,_,_,_]) rfl rfl) rfl rfl fun b1=>RS.solid (Sd.alloc zr52 rfl) rfl rfl fun b2=>RS.nil (hK1 _ _ ?_))
 refine T.seq fun K2 hK2=>?_
 refine T.drawn (fun _=>True) [(0,.pu),(1,.rd),(3,.pu),(4,.rd),(6,.pu),(7,.rd),(2,.so),(9,.pu),(5,.so),(8,.so),(10,.br),(11,.pu),(12,.br),(13,.pu),(14,.br)] mixed (ClE.sat _ _) (by kernel_rfl) ?_
 refine dp rfl (Pu.fieldAddr fd52_3 rfl) (dq rfl (Qt.ldBA (us:=[_,_,_]) 0 ty24 rfl rfl rfl rfl) (dp rfl (Pu.fieldAddr fd52_4 rfl) (dq rfl (Qt.ldB 0 ty49 rfl rfl rfl) (dp rfl (Pu.fieldAddr fd52_5 rfl) (dq rfl (Qt.ldB 0 ty50 rfl rfl rfl) ?_)))))
 obtain ⟨x3,hx3,H⟩:=bindE H
 refine RD.solid rfl (.inl rfl) rfl rfl (Sd.callN (vs:=[.agg #[.int .i64 a0_w.g.w,.int .i64 a0_w.g.h,.slice p0 a0_w.g.tiles.length c0]]) ent32 rfl (fun w s=>ground_Own_walk a0_w.g w ((Rd.base h0) w s) hx3)) (fun _=>ClE.sat _ _) (fun _ _ _=>trivial) (fun _ _ _ s=>s.drop1) fun q4=>?_
 refine dp rfl (Pu.fieldAddr fd52_3 rfl) ?_
 obtain ⟨x5,hx5,H⟩:=bindE H
 refine RD.solid rfl (.inl rfl) rfl rfl (Sd.callN (vs:=[.slice p1 a0_w.bs.length c1]) ent74 rfl (fun w s=>slices_Clone_Bld_walk a0_w.bs w ((Rd.base h1) w s) hx5)) (fun _=>ClE.sat _ _) (fun _ _ _=>trivial) (fun _ _ _ s=>s.drop1) fun q6=>?_
 obtain ⟨x7,hx7,H⟩:=bindE H
 refine RD.solid rfl (.inl rfl) rfl rfl (Sd.callN (vs:=[.slice p2 a0_w.us.length c2]) ent75 rfl (fun w s=>slices_Clone_Unt_walk a0_w.us w ((Rd.base h2) w s) hx7)) (fun _=>ClE.sat _ _) (fun _ _ _=>trivial) (fun _ _ _ s=>s.drop1) fun q8=>?_
 refine RD.solid rfl (.inr rfl) rfl rfl (Sd.stB (cs':=[_,_,_,_,_,_,_,_]) 0 ty24 rfl rfl rfl rfl rfl rfl rfl rfl) (fun _=>ClE.sat _ _) (fun _ _ _=>trivial) (fun h=>nomatch h) fun _=>?_
 refine dp rfl (Pu.fieldAddr fd52_4 rfl) (RD.solid rfl (.inr rfl) rfl rfl (Sd.stB (cs':=[_,_,_,_,_,_,_,_]) 0 ty49 rfl rfl rfl rfl rfl rfl rfl rfl) (fun _=>ClE.sat _ _) (fun _ _ _=>trivial) (fun h=>nomatch h) fun _=>?_)
 refine dp rfl (Pu.fieldAddr fd52_5 rfl) (RD.solid rfl (.inr rfl) rfl rfl (Sd.stB (cs':=[_,_,_,_,_,_,_,_]) 0 ty50 rfl rfl rfl rfl rfl rfl rfl rfl) (fun _=>ClE.sat _ _) (fun _ _ _=>trivial) (fun h=>nomatch h) fun _=>?_)
 refine RD.nil (hK2 _ _ (cq [(1,_),(2,_)] ?_))
 refine T.seq fun K3 hK3=>T.region (rq (Qt.ldBA (us:=[_,_,_,_,_,_,_,_]) 0 ty52 rfl rfl rfl rfl) (RS.solid (Sd.stB (cs':=[_,_,_,_,_,_,_,_]) 1 ty52 rfl rfl rfl rfl rfl rfl rfl rfl) rfl rfl fun _=>RS.nil (hK3 _ _ ?_)))
 obtain rfl:=sj H
 refine T.rt (Cont.retC 1 rfl ty52 rfl rfl rfl fun w' s=>?_)
 exact ⟨⟨q4,q6,q8⟩,rfl,s.pick [2,3,4] (by decide) rfl⟩
theorem army_form0_1_walk (a0_b:Bld) (cv0:Wld) (w:World) {v0 v1 v2:Value} {p1g:Nat} (hb1:blk p1g [.int .i64 cv0.tick,.int .i64 cv0.players,.int .i64 cv0.nextid,.int .i64 cv0.g.w,.int .i64 cv0.g.h,v0,v1,v2] 52 (hpOf w)) (h0:R (hpOf w) cv0.g.tiles [v0]) (h1:R (hpOf w) cv0.bs [v1]) (h2:R (hpOf w) cv0.us [v2]) {r:Bool} (H:army_form0_1 a0_b cv0 = some r):Calls Tryz.prog 113 #[.agg #[.int .i64 a0_b.id,.int .i64 a0_b.owner,.int .i64 a0_b.x,.int .i64 a0_b.y,.int .i64 a0_b.w,.int .i64 a0_b.h],.pointer (some ⟨p1g,0,none⟩)] w fun e w'=>e = .returned (.bool r)∧Ext w w':=by
 have hm0:=R_max h0
 obtain ⟨p0,c0,rfl⟩:=R_form h0
 have hm1:=R_max h1
 obtain ⟨p1,c1,rfl⟩:=R_form h1
 have hm2:=R_max h2
 obtain ⟨p2,c2,rfl⟩:=R_form h2
 unfold army_form0_1 at H
 refine T.enter (args:=[_,_]) (S:=Sat w []) Tryz.func113 rfl rfl (Sat.start w) ?_
 refine T.seq fun K1 hK1=>T.region (RS.solid (Sd.box (cs:=[_,_,_,_,_,_]) rfl rfl) rfl rfl fun b1=>rA rfl (RS.nil (hK1 _ _ ?_)))
 refine T.seq fun K2 hK2=>T.region (rp (Pu.fieldAddr fd135_1 rfl) (rq (Qt.ldB 0 ty3 rfl rfl rfl) (rp (Pu.fieldAddr fd52_1 rfl) (rq (Qt.ldX ty3 rfl hb1 (fun w s=>s.ext) rfl) (rp (Pu.bin rfl rfl rfl) (rM rfl ?_))))))
 refine RS.joinV 6 15 (.bool (decide ((cv0.players < a0_b.owner) ∨ (cv0.nextid ≤ a0_b.id)))) [(3,_)] ⟨rfl,trivial⟩ ?_ ?_
 ·refine rA rfl (RS.nil (hK2 _ _ ?_))
  obtain rfl:=sj H
  refine T.rt (Cont.ret1 rfl rfl fun w' s=>?_)
  exact ⟨rfl,s.ext⟩
 ·intro hJ3
  refine RS.splitP 9 rfl (fun hc2=>?_) (fun hc2=>?_)
  ·refine ro (ro (ro (ro (ro (rp (Pu.pickT rfl rfl) ?_)))))
   exact hJ3 _ _ ⟨dOrT hc2,rfl,trivial⟩ (fun w s=>s)
  ·refine rp (Pu.fieldAddr fd135_0 rfl) (rq (Qt.ldB 0 ty3 rfl rfl rfl) (rp (Pu.fieldAddr fd52_2 rfl) (rq (Qt.ldX ty3 rfl hb1 (fun w s=>s.ext) rfl) (rp (Pu.bin rfl rfl rfl) (rp (Pu.pickF rfl rfl) ?_)))))
   exact hJ3 _ _ ⟨dOrF hc2,rfl,trivial⟩ (fun w s=>s)
theorem army_form0_walk (a0_w:Wld) (w:World) {v0 v1 v2:Value} (h0:R (hpOf w) a0_w.g.tiles [v0]) (h1:R (hpOf w) a0_w.bs [v1]) (h2:R (hpOf w) a0_w.us [v2]) {r:Bool} (H:army_form0 a0_w = some r):Calls Tryz.prog 69 #[.agg #[.int .i64 a0_w.tick,.int .i64 a0_w.players,.int .i64 a0_w.nextid,.int .i64 a0_w.g.w,.int .i64 a0_w.g.h,v0,v1,v2]] w fun e w'=>e = .returned (.bool r)∧Ext w w':=by
 have hm0:=R_max h0
 obtain ⟨p0,c0,rfl⟩:=R_form h0
 have hm1:=R_max h1
 obtain ⟨p1,c1,rfl⟩:=R_form h1
 have hm2:=R_max h2
 obtain ⟨p2,c2,rfl⟩:=R_form h2
 unfold army_form0 at H
 refine T.enter (args:=[_]) (S:=Sat w []) Tryz.func69 rfl rfl (Sat.start w) ?_
 refine T.seq fun K1 hK1=>T.region (RS.solid (Sd.box (cs:=[_,_,_,_,_,_,_,_]) rfl rfl) rfl rfl fun b1=>rA rfl (RS.nil (hK1 _ _ ?_)))
 refine T.seq fun K2 hK2=>T.seq fun K3 hK3=>T.region (rp (Pu.fieldAddr fd52_0 rfl) (rq (Qt.ldB 0 ty3 rfl rfl rfl) (rp (Pu.bin rfl rfl rfl) (rM rfl ?_))))
 refine RS.joinV 4 10 (.bool (decide ((a0_w.tick < 0) ∨ (1099511627776 < a0_w.tick)))) [(1,_)] ⟨rfl,trivial⟩ ?_ ?_
 ·refine rM rfl ?_
  refine RS.joinV 4 15 (.bool (decide (((a0_w.tick < 0) ∨ (1099511627776 < a0_w.tick)) ∨ (a0_w.players < 1)))) [(1,_)] ⟨rfl,trivial⟩ ?_ ?_
  ·refine rM rfl ?_
   refine RS.joinV 4 20 (.bool (decide ((((a0_w.tick < 0) ∨ (1099511627776 < a0_w.tick)) ∨ (a0_w.players < 1)) ∨ (8 < a0_w.players)))) [(1,_)] ⟨rfl,trivial⟩ ?_ ?_
   ·refine rM rfl ?_
    refine RS.joinV 4 25 (.bool (decide (((((a0_w.tick < 0) ∨ (1099511627776 < a0_w.tick)) ∨ (a0_w.players < 1)) ∨ (8 < a0_w.players)) ∨ (a0_w.nextid < 1)))) [(1,_)] ⟨rfl,trivial⟩ ?_ ?_
    ·refine rM rfl ?_
     refine RS.joinV 4 30 (.bool (decide ((((((a0_w.tick < 0) ∨ (1099511627776 < a0_w.tick)) ∨ (a0_w.players < 1)) ∨ (8 < a0_w.players)) ∨ (a0_w.nextid < 1)) ∨ (1099511627776 < a0_w.nextid)))) [(1,_)] ⟨rfl,trivial⟩ ?_ ?_
     ·refine RS.nil (hK3 _ _ ?_)
      refine T.condP rfl (fun hc12=>?_) (fun hc12=>?_)
      ·have H:=ifT hc12 H
       refine T.seq fun K4 hK4=>T.region (rA rfl (RS.nil (hK4 _ _ ?_)))
       obtain rfl:=sj H
       refine T.rt (Cont.ret1 rfl rfl fun w' s=>?_)
       exact ⟨rfl,s.ext⟩
      ·have H:=ifF hc12 H
       refine T.skip (hK2 _ _ ?_)
       refine T.seq fun K5 hK5=>T.seq fun K6 hK6=>T.region (rp (Pu.fieldAddr fd52_3 rfl) (rq (Qt.ldBA (us:=[_,_,_]) 0 ty24 rfl rfl rfl rfl) ?_))
       obtain ⟨x13,hx13,H⟩:=bindE H
       refine rq (Qt.call (vs:=[.agg #[.int .i64 a0_w.g.w,.int .i64 a0_w.g.h,.slice p0 a0_w.g.tiles.length c0]]) ent31 rfl fun w s=>ground_May_walk a0_w.g w ((Rd.base h0) w s) hx13) (rp (Pu.not rfl) (rM rfl ?_))
       refine RS.joinB H 7 42 (fun b16=>.bool b16) [(1,_)] ⟨rfl,trivial⟩ ?_ ?_
       ·intro b16 H
        refine rM rfl ?_
        refine RS.joinV 5 48 (.bool (decide ((b16 = true) ∨ (4096 < (a0_w.us.length:Int))))) [(1,_)] ⟨rfl,trivial⟩ ?_ ?_
        ·refine RS.nil (hK6 _ _ ?_)
         refine T.condP rfl (fun hc19=>?_) (fun hc19=>?_)
         ·have H:=ifT hc19 H
          refine T.seq fun K7 hK7=>T.region (rA rfl (RS.nil (hK7 _ _ ?_)))
          obtain rfl:=sj H
          refine T.rt (Cont.ret1 rfl rfl fun w' s=>?_)
          exact ⟨rfl,s.ext⟩
         ·have H:=ifF hc19 H
          refine T.skip (hK5 _ _ ?_)
          refine T.seq fun K8 hK8=>T.region (rp (Pu.fieldAddr fd52_4 rfl) (rq (Qt.ldB 0 ty49 rfl rfl rfl) (rp (Pu.makeFunc rfl) ?_)))
          obtain ⟨x20,hx20,H⟩:=bindE H
          refine rq (Qt.call (vs:=[.slice p1 a0_w.bs.length c1,.func (.func 113) #[] #[.pointer (some ⟨b1,0,none⟩)]]) ent112 rfl fun w s=>slices_ContainsFuncB_walk a0_w.bs (fun y0=>army_form0_1 y0 a0_w) w ((Rd.base h1) w s) (⟨113,_,rfl,ent113,fun y0 r w' he hr=>army_form0_1_walk y0 a0_w w' (blk_ext he (blk_of s (k:=0) rfl)) (Enc.mono he.hp ((Rd.base h0) w s)) (Enc.mono he.hp ((Rd.base h1) w s)) (Enc.mono he.hp ((Rd.base h2) w s)) hr⟩) hx20) (rp (Pu.not rfl) (rA rfl (RS.nil (hK8 _ _ (cq [(2,_)] ?_)))))
          obtain rfl:=sj H
          refine T.rt (Cont.ret1 rfl rfl fun w' s=>?_)
          exact ⟨rfl,s.ext⟩
        ·intro hJ18
         refine RS.split 43 rfl (fun hc17=>?_) (fun hc17=>?_)
         ·refine ro (ro (ro (ro (rp (Pu.pickT rfl rfl) ?_))))
          exact hJ18 _ _ ⟨dOrT hc17,rfl,trivial⟩ (fun w s=>s)
         ·refine rp (Pu.fieldAddr fd52_5 rfl) (rq (Qt.ldB 0 ty50 rfl rfl rfl) (rp (Pu.lenSl sl50 rfl) (rp (Pu.bin rfl rfl rfl) (rp (Pu.pickF rfl rfl) ?_))))
          exact hJ18 _ _ ⟨dOrF (bne_of hc17),rfl,trivial⟩ (fun w s=>s)
       ·intro z21 H hJ15
        refine RS.split 35 rfl (fun hc14=>?_) (fun hc14=>?_)
        ·have H:=ifT hc14 H
         refine ro (ro (ro (ro (ro (ro (rp (Pu.pickT rfl rfl) ?_))))))
         obtain rfl:=sj H
         exact hJ15 _ _ ⟨rfl,rfl,trivial⟩ (fun w s=>s)
        ·have H:=ifB hc14 H
         refine rp (Pu.fieldAddr fd52_3 rfl) (rq (Qt.ldBA (us:=[_,_,_]) 0 ty24 rfl rfl rfl rfl) (rp (Pu.fieldAddr fd52_4 rfl) (rq (Qt.ldB 0 ty49 rfl rfl rfl) ?_)))
         obtain ⟨x22,hx22,H⟩:=bindE H
         refine rq (Qt.call (vs:=[.agg #[.int .i64 a0_w.g.w,.int .i64 a0_w.g.h,.slice p0 a0_w.g.tiles.length c0],.slice p1 a0_w.bs.length c1]) ent111 rfl fun w s=>build_May_walk a0_w.g a0_w.bs w ((Rd.base h0) w s) ((Rd.base h1) w s) hx22) (rp (Pu.not rfl) (rp (Pu.pickF rfl rfl) ?_))
         obtain rfl:=sj H
         exact hJ15 _ _ ⟨rfl,rfl,trivial⟩ (fun w s=>s)
     ·intro hJ11
      refine RS.splitP 26 rfl (fun hc10=>?_) (fun hc10=>?_)
      ·refine ro (ro (ro (rp (Pu.pickT rfl rfl) ?_)))
       exact hJ11 _ _ ⟨dOrT hc10,rfl,trivial⟩ (fun w s=>s)
      ·refine rp (Pu.fieldAddr fd52_2 rfl) (rq (Qt.ldB 0 ty3 rfl rfl rfl) (rp (Pu.bin rfl rfl rfl) (rp (Pu.pickF rfl rfl) ?_)))
       exact hJ11 _ _ ⟨dOrF hc10,rfl,trivial⟩ (fun w s=>s)
    ·intro hJ9
     refine RS.splitP 21 rfl (fun hc8=>?_) (fun hc8=>?_)
     ·refine ro (ro (ro (rp (Pu.pickT rfl rfl) ?_)))
      exact hJ9 _ _ ⟨dOrT hc8,rfl,trivial⟩ (fun w s=>s)
     ·refine rp (Pu.fieldAddr fd52_2 rfl) (rq (Qt.ldB 0 ty3 rfl rfl rfl) (rp (Pu.bin rfl rfl rfl) (rp (Pu.pickF rfl rfl) ?_)))
      exact hJ9 _ _ ⟨dOrF hc8,rfl,trivial⟩ (fun w s=>s)
   ·intro hJ7
    refine RS.splitP 16 rfl (fun hc6=>?_) (fun hc6=>?_)
    ·refine ro (ro (ro (rp (Pu.pickT rfl rfl) ?_)))
     exact hJ7 _ _ ⟨dOrT hc6,rfl,trivial⟩ (fun w s=>s)
    ·refine rp (Pu.fieldAddr fd52_1 rfl) (rq (Qt.ldB 0 ty3 rfl rfl rfl) (rp (Pu.bin rfl rfl rfl) (rp (Pu.pickF rfl rfl) ?_)))
     exact hJ7 _ _ ⟨dOrF hc6,rfl,trivial⟩ (fun w s=>s)
  ·intro hJ5
   refine RS.splitP 11 rfl (fun hc4=>?_) (fun hc4=>?_)
   ·refine ro (ro (ro (rp (Pu.pickT rfl rfl) ?_)))
    exact hJ5 _ _ ⟨dOrT hc4,rfl,trivial⟩ (fun w s=>s)
   ·refine rp (Pu.fieldAddr fd52_1 rfl) (rq (Qt.ldB 0 ty3 rfl rfl rfl) (rp (Pu.bin rfl rfl rfl) (rp (Pu.pickF rfl rfl) ?_)))
    exact hJ5 _ _ ⟨dOrF hc4,rfl,trivial⟩ (fun w s=>s)
 ·intro hJ3
  refine RS.splitP 6 rfl (fun hc2=>?_) (fun hc2=>?_)
  ·refine ro (ro (ro (rp (Pu.pickT rfl rfl) ?_)))
   exact hJ3 _ _ ⟨dOrT hc2,rfl,trivial⟩ (fun w s=>s)
  ·refine rp (Pu.fieldAddr fd52_0 rfl) (rq (Qt.ldB 0 ty3 rfl rfl rfl) (rp (Pu.bin rfl rfl rfl) (rp (Pu.pickF rfl rfl) ?_)))
   exact hJ3 _ _ ⟨dOrF hc2,rfl,trivial⟩ (fun w s=>s)
theorem world_New_walk (a0_g:Grd) (a1_players:Int) (w:World) {v0:Value} (h0:R (hpOf w) a0_g.tiles [v0]) {r:Wld × Int} (H:world_New a0_g a1_players = some r):Calls Tryz.prog 14 #[.agg #[.int .i64 a0_g.w,.int .i64 a0_g.h,v0],.int .i64 a1_players] w fun e w'=>∃ g:(Option Nat × Nat) × (Option Nat × Nat) × (Option Nat × Nat),e = .returned (.tuple #[.agg #[.int .i64 r.1.tick,.int .i64 r.1.players,.int .i64 r.1.nextid,.int .i64 r.1.g.w,.int .i64 r.1.g.h,rowV g.1 r.1.g.tiles.length,rowV g.2.1 r.1.bs.length,rowV g.2.2 r.1.us.length],.int .i64 r.2])∧Sat w [row nilH 5 (rowV g.1 r.1.g.tiles.length) r.1.g.tiles,row nilH 135 (rowV g.2.1 r.1.bs.length) r.1.bs,row nilH 54 (rowV g.2.2 r.1.us.length) r.1.us] w':=by
 have hm0:=R_max h0
 obtain ⟨p0,c0,rfl⟩:=R_form h0
 unfold world_New at H
 refine T.enter (args:=[_,_]) (S:=Sat w []) Tryz.func14 rfl rfl (Sat.start w) ?_
 refine T.seq fun K1 hK1=>T.region (RS.solid (Sd.box (cs:=[_,_,_]) rfl rfl) rfl rfl fun b1=>RS.solid (Sd.alloc zr52 rfl) rfl rfl fun b2=>rA rfl (RS.nil (hK1 _ _ ?_)))
 refine T.seq fun K2 hK2=>T.seq fun K3 hK3=>T.region (rq (Qt.ldBA (us:=[_,_,_]) 0 ty24 rfl rfl rfl rfl) ?_)
 obtain ⟨x3,hx3,H⟩:=bindE H
 refine rq (Qt.call (vs:=[.agg #[.int .i64 a0_g.w,.int .i64 a0_g.h,.slice p0 a0_g.tiles.length c0]]) ent31 rfl fun w s=>ground_May_walk a0_g w ((Rd.base h0) w s) hx3) (rp (Pu.not rfl) (rM rfl ?_))
 refine RS.joinV 3 12 (.bool (decide (((!x3) = true) ∨ (a1_players < 1)))) [(1,_),(2,_),(4,_)] ⟨rfl,rfl,rfl,trivial⟩ ?_ ?_
 ·refine rM rfl ?_
  refine RS.joinV 3 16 (.bool (decide ((((!x3) = true) ∨ (a1_players < 1)) ∨ (8 < a1_players)))) [(1,_),(2,_),(4,_)] ⟨rfl,rfl,rfl,trivial⟩ ?_ ?_
  ·refine RS.nil (hK3 _ _ ?_)
   refine T.condP rfl (fun hc8=>?_) (fun hc8=>?_)
   ·have H:=ifT hc8 H
    refine cq [(4,_)] ?_
    refine T.seq fun K4 hK4=>T.region (rp (Pu.build (cells:=[_,_,_,_,_,_,_,_]) st52 rfl rfl) (RS.solid (Sd.stB (cs':=[_,_,_,_,_,_,_,_]) 1 ty52 rfl rfl rfl rfl rfl rfl rfl rfl) rfl rfl fun _=>rA rfl (RS.nil (hK4 _ _ ?_))))
    obtain rfl:=sj H
    refine T.rt (Cont.retCT 1 rfl ty52 rfl rfl rfl rfl fun w' s=>?_)
    exact ⟨⟨(none,0),(none,0),(none,0)⟩,rfl,(((s.nilRow (α:=UInt8) 5).nilRow (α:=Bld) 135).nilRow (α:=Unt) 54).pick [2,3,4] (by decide) rfl⟩
   ·have H:=ifF hc8 H
    refine T.skip (hK2 _ _ ?_)
    refine T.seq fun K5 hK5=>T.region (rM rfl (rq (Qt.ldBA (us:=[_,_,_]) 0 ty24 rfl rfl rfl rfl) ?_))
    obtain ⟨x9,hx9,H⟩:=bindE H
    refine RS.solid (Sd.callN (vs:=[.agg #[.int .i64 a0_g.w,.int .i64 a0_g.h,.slice p0 a0_g.tiles.length c0]]) ent32 rfl (fun w s=>ground_Own_walk a0_g w ((Rd.base h0) w s) hx9)) rfl rfl fun q10=>rp (Pu.build (cells:=[_,_,_,_,_,_,_,_]) st52 rfl rfl) (RS.solid (Sd.stB (cs':=[_,_,_,_,_,_,_,_]) 1 ty52 rfl rfl rfl rfl rfl rfl rfl rfl) rfl rfl fun _=>rA rfl (RS.nil (hK5 _ _ (cq [(4,_),(5,_)] ?_))))
    obtain rfl:=sj H
    refine T.rt (Cont.retCT 1 rfl ty52 rfl rfl rfl rfl fun w' s=>?_)
    exact ⟨⟨q10,(none,0),(none,0)⟩,rfl,((s.nilRow (α:=Bld) 135).nilRow (α:=Unt) 54).pick [2,3,4] (by decide) rfl⟩
  ·intro hJ7
   refine RS.splitP 13 rfl (fun hc6=>?_) (fun hc6=>?_)
   ·refine ro (ro (rp (Pu.pickT rfl rfl) ?_))
    exact hJ7 _ _ ⟨dOrT hc6,rfl,rfl,rfl,trivial⟩ (fun w s=>s)
   ·refine rM rfl (rp (Pu.bin rfl rfl rfl) (rp (Pu.pickF rfl rfl) ?_))
    exact hJ7 _ _ ⟨dOrF hc6,rfl,rfl,rfl,trivial⟩ (fun w s=>s)
 ·intro hJ5
  refine RS.split 9 rfl (fun hc4=>?_) (fun hc4=>?_)
  ·refine ro (ro (rp (Pu.pickT rfl rfl) ?_))
   exact hJ5 _ _ ⟨dOrT hc4,rfl,rfl,rfl,trivial⟩ (fun w s=>s)
  ·refine rM rfl (rp (Pu.bin rfl rfl rfl) (rp (Pu.pickF rfl rfl) ?_))
   exact hJ5 _ _ ⟨dOrF (bne_of hc4),rfl,rfl,rfl,trivial⟩ (fun w s=>s)
theorem command_only_walk (a0_c:Cmd) (w:World) {v0:Value} (B0:Hp) (hB0:B0.le (hpOf w)) (h0:R B0 a0_c.units [v0]) {r:Cmd × Bool} (H:command_only a0_c = some r):Calls Tryz.prog 124 #[.agg #[.int .i64 a0_c.player,.int .i64 a0_c.seq,.int .i64 a0_c.kind,.int .i64 a0_c.n,v0,.int .i64 a0_c.tile,.int .i64 a0_c.w,.int .i64 a0_c.h,.int .i64 a0_c.pos.x,.int .i64 a0_c.pos.y]] w fun e w'=>∃ u1:Value,e = .returned (.tuple #[.agg #[.int .i64 r.1.player,.int .i64 r.1.seq,.int .i64 r.1.kind,.int .i64 r.1.n,u1,.int .i64 r.1.tile,.int .i64 r.1.w,.int .i64 r.1.h,.int .i64 r.1.pos.x,.int .i64 r.1.pos.y],.bool r.2])∧Sat w [pc (R B0 (r.1.units:List Int) [u1])] w':=by
 have hm0:=R_max h0
 obtain ⟨p0,c0,rfl⟩:=R_form h0
 have hb0:=Enc.mono hB0 h0
 unfold command_only at H
 refine T.enter (args:=[_]) (S:=Sat w []) Tryz.func124 rfl rfl (Sat.start w) ?_
 refine T.seq fun K1 hK1=>T.region (RS.solid (Sd.box (cs:=[_,_,_,_,_,_,_,_,_,_]) rfl rfl) rfl rfl fun b1=>RS.solid (Sd.alloc zr37 rfl) rfl rfl fun b2=>rA rfl (RS.nil (hK1 _ _ ?_)))
 refine T.seq fun K2 hK2=>T.region (rp (Pu.fieldAddr fd37_0 rfl) (rq (Qt.ldB 0 ty3 rfl rfl rfl) (rp (Pu.fieldAddr fd37_1 rfl) (rq (Qt.ldB 0 ty3 rfl rfl rfl) (rp (Pu.fieldAddr fd37_2 rfl) (rq (Qt.ldB 0 ty3 rfl rfl rfl) (rp (Pu.build (cells:=[_,_,_,_,_,_,_,_,_,_]) st37 rfl rfl) (RS.solid (Sd.stB (cs':=[_,_,_,_,_,_,_,_,_,_]) 1 ty37 rfl rfl rfl rfl rfl rfl rfl rfl) rfl rfl fun _=>RS.nil (hK2 _ _ (cq [(1,_),(2,_),(3,_)] ?_))))))))))
 refine T.seq fun K3 hK3=>T.seq fun K4 hK4=>T.region (rp (Pu.fieldAddr fd37_2 rfl) (rq (Qt.ldB 0 ty3 rfl rfl rfl) (RS.nil (hK4 _ _ ?_))))
 refine T.block (T.seq fun K5 hK5=>T.region (rp (Pu.bin rfl rfl rfl) (rA rfl (RS.nil (hK5 _ _ ?_)))))
 refine T.condP rfl (fun hc3=>?_) (fun hc3=>?_)
 ·have H:=ifT hc3 H
  refine cq [(1,_),(2,_)] ?_
  refine T.seq fun K6 hK6=>?_
  refine T.drawnS [0] [(0,.pu),(1,.rd),(2,.pu),(3,.wk),(4,.pu),(5,.br),(6,.pu),(7,.br)] mixed (by kernel_rfl) rfl ?_
  refine RD.p (fun w s=>s.pick [0] (by decide) rfl) rfl (Pu.fieldAddr fd37_3 rfl) rfl rfl (RD.q (fun w s=>s.pick [0] (by decide) rfl) rfl (Qt.ldB 0 ty3 rfl rfl rfl) rfl rfl (RD.p (fun w s=>s.pick [0] (by decide) rfl) rfl (Pu.fieldAddr fd37_8 rfl) rfl rfl ?_))
  refine RD.w (fun w s=>s.pick [0] (by decide) rfl) rfl (Qt.ldBA (us:=[_,_]) 0 ty33 rfl rfl rfl rfl) rfl rfl ?_
  refine RD.p (fun w s=>s.pick [0] (by decide) rfl) rfl (Pu.fieldAddr fd37_3 rfl) rfl rfl (RD.solid rfl (.inr rfl) rfl rfl (Sd.stB (cs':=[_,_,_,_,_,_,_,_,_,_]) 1 ty3 rfl rfl rfl rfl rfl rfl rfl rfl) (fun _=>ClE.sat _ _) (fun _ w s=>s.pick [0] (by decide) rfl) (fun h=>nomatch h) fun _=>?_)
  refine RD.p (fun w s=>s.pick [0] (by decide) rfl) rfl (Pu.fieldAddr fd37_8 rfl) rfl rfl (RD.solid rfl (.inr rfl) rfl rfl (Sd.stB (cs':=[_,_,_,_,_,_,_,_,_,_]) 1 ty33 rfl rfl rfl rfl rfl rfl rfl rfl) (fun _=>ClE.sat _ _) (fun _ w s=>s.pick [0] (by decide) rfl) (fun h=>nomatch h) fun _=>?_)
  refine RD.nil (hK6 _ _ (cq [(1,_),(2,_)] ?_))
  refine T.region (rp (Pu.fieldAddr fd37_3 rfl) (rq (Qt.ldB 0 ty3 rfl rfl rfl) ?_))
  obtain ⟨x4,hx4,H⟩:=bindE H
  refine rq (Qt.call (vs:=[.int .i64 a0_c.n]) ent114 rfl fun w s=>kind_May_walk a0_c.n w  hx4) (rM rfl ?_)
  refine RS.joinB H 4 28 (fun b7=>.bool b7) [(2,_)] ⟨rfl,trivial⟩ ?_ ?_
  ·intro b7 H
   refine rA rfl (RS.nil (hK3 _ _ ?_))
   refine T.seq fun K7 hK7=>T.region (rq (Qt.ldBA (us:=[_,_,_,_,_,_,_,_,_,_]) 1 ty37 rfl rfl rfl rfl) (rM rfl (RS.solid (Sd.stB (cs':=[_,_,_,_,_,_,_,_,_,_]) 1 ty37 rfl rfl rfl rfl rfl rfl rfl rfl) rfl rfl fun _=>rA rfl (RS.nil (hK7 _ _ (cq [(2,_),(3,_)] ?_))))))
   obtain rfl:=sj H
   refine T.rt (Cont.retCT 1 rfl ty37 rfl rfl rfl rfl fun w' s=>?_)
   exact ⟨.slice none 0 0,rfl,(s.addPc ⟨none,0,rfl,by simp,by decide,.inl rfl⟩).pick [2] (by decide) rfl⟩
  ·intro z8 H hJ6
   refine RS.split 24 rfl (fun hc5=>?_) (fun hc5=>?_)
   ·have H:=ifT hc5 H
    refine rp (Pu.fieldAddr fd37_8 rfl) (rq (Qt.ldBA (us:=[_,_]) 0 ty33 rfl rfl rfl rfl) ?_)
    obtain ⟨x9,hx9,H⟩:=bindE H
    refine rq (Qt.call (vs:=[.agg #[.int .i64 a0_c.pos.x,.int .i64 a0_c.pos.y]]) ent184 rfl fun w s=>disc_Place_walk a0_c.pos w  hx9) (rp (Pu.pickT rfl rfl) ?_)
    obtain rfl:=sj H
    exact hJ6 _ _ ⟨rfl,rfl,trivial⟩ (fun w s=>s)
   ·have H:=ifB hc5 H
    refine ro (ro (ro (rp (Pu.pickF rfl rfl) ?_)))
    obtain rfl:=sj H
    exact hJ6 _ _ ⟨rfl,rfl,trivial⟩ (fun w s=>s)
 ·have H:=ifF hc3 H
  refine cq [(1,_),(2,_),(3,_),(12,_)] ?_
  refine T.seq fun K8 hK8=>T.region (rp (Pu.bin rfl rfl rfl) (rA rfl (RS.nil (hK8 _ _ ?_))))
  refine T.condP rfl (fun hc10=>?_) (fun hc10=>?_)
  ·have H:=ifT hc10 H
   refine cq [(1,_),(2,_)] ?_
   refine T.seq fun K9 hK9=>?_
   refine T.drawnS [0] [(0,.pu),(1,.rd),(2,.pu),(3,.wk),(4,.pu),(5,.br),(6,.pu),(7,.br)] mixed (by kernel_rfl) rfl ?_
   refine RD.p (fun w s=>s.pick [0] (by decide) rfl) rfl (Pu.fieldAddr fd37_4 rfl) rfl rfl (RD.q (fun w s=>s.pick [0] (by decide) rfl) rfl (Qt.ldB 0 ty35 rfl rfl rfl) rfl rfl (RD.p (fun w s=>s.pick [0] (by decide) rfl) rfl (Pu.fieldAddr fd37_5 rfl) rfl rfl ?_))
   refine RD.w (fun w s=>s.pick [0] (by decide) rfl) rfl (Qt.ldB 0 ty3 rfl rfl rfl) rfl rfl ?_
   refine RD.p (fun w s=>s.pick [0] (by decide) rfl) rfl (Pu.fieldAddr fd37_4 rfl) rfl rfl (RD.solid rfl (.inr rfl) rfl rfl (Sd.stB (cs':=[_,_,_,_,_,_,_,_,_,_]) 1 ty35 rfl rfl rfl rfl rfl rfl rfl rfl) (fun _=>ClE.sat _ _) (fun _ w s=>s.pick [0] (by decide) rfl) (fun h=>nomatch h) fun _=>?_)
   refine RD.p (fun w s=>s.pick [0] (by decide) rfl) rfl (Pu.fieldAddr fd37_5 rfl) rfl rfl (RD.solid rfl (.inr rfl) rfl rfl (Sd.stB (cs':=[_,_,_,_,_,_,_,_,_,_]) 1 ty3 rfl rfl rfl rfl rfl rfl rfl rfl) (fun _=>ClE.sat _ _) (fun _ w s=>s.pick [0] (by decide) rfl) (fun h=>nomatch h) fun _=>?_)
   refine RD.nil (hK9 _ _ (cq [(1,_),(2,_)] ?_))
   refine T.region (rp (Pu.fieldAddr fd37_4 rfl) (rq (Qt.ldB 0 ty35 rfl rfl rfl) ?_))
   obtain ⟨x11,hx11,H⟩:=bindE H
   refine rq (Qt.call (vs:=[.slice p0 a0_c.units.length c0]) ent185 rfl fun w s=>command_units_walk a0_c.units w ((Rd.base hb0) w s) hx11) (rM rfl ?_)
   refine RS.joinB H 4 44 (fun b14=>.bool b14) [(2,_)] ⟨rfl,trivial⟩ ?_ ?_
   ·intro b14 H
    refine rA rfl (RS.nil (hK3 _ _ ?_))
    refine T.seq fun K10 hK10=>T.region (rq (Qt.ldBA (us:=[_,_,_,_,_,_,_,_,_,_]) 1 ty37 rfl rfl rfl rfl) (rM rfl (RS.solid (Sd.stB (cs':=[_,_,_,_,_,_,_,_,_,_]) 1 ty37 rfl rfl rfl rfl rfl rfl rfl rfl) rfl rfl fun _=>rA rfl (RS.nil (hK10 _ _ (cq [(2,_),(3,_)] ?_))))))
    obtain rfl:=sj H
    refine T.rt (Cont.retCT 1 rfl ty37 rfl rfl rfl rfl fun w' s=>?_)
    exact ⟨.slice p0 a0_c.units.length c0,rfl,(s.addPc h0).pick [2] (by decide) rfl⟩
   ·intro z15 H hJ13
    refine RS.split 40 rfl (fun hc12=>?_) (fun hc12=>?_)
    ·have H:=ifT hc12 H
     refine rp (Pu.fieldAddr fd37_5 rfl) (rq (Qt.ldB 0 ty3 rfl rfl rfl) ?_)
     obtain ⟨x16,hx16,H⟩:=bindE H
     refine rq (Qt.call (vs:=[.int .i64 a0_c.tile,.int .i64 0,.int .i64 16383]) ent125 rfl fun w s=>command_within_walk a0_c.tile 0 16383 w  hx16) (rp (Pu.pickT rfl rfl) ?_)
     obtain rfl:=sj H
     exact hJ13 _ _ ⟨rfl,rfl,trivial⟩ (fun w s=>s)
    ·have H:=ifB hc12 H
     refine ro (ro (ro (rp (Pu.pickF rfl rfl) ?_)))
     obtain rfl:=sj H
     exact hJ13 _ _ ⟨rfl,rfl,trivial⟩ (fun w s=>s)
  ·have H:=ifF hc10 H
   refine T.seq fun K11 hK11=>T.region (rp (Pu.bin rfl rfl rfl) (rA rfl (RS.nil (hK11 _ _ ?_))))
   refine T.condP rfl (fun hc17=>?_) (fun hc17=>?_)
   ·have H:=ifT hc17 H
    refine cq [(1,_),(2,_)] ?_
    refine T.seq fun K12 hK12=>T.region (rp (Pu.fieldAddr fd37_4 rfl) (rq (Qt.ldB 0 ty35 rfl rfl rfl) (rp (Pu.fieldAddr fd37_4 rfl) (RS.solid (Sd.stB (cs':=[_,_,_,_,_,_,_,_,_,_]) 1 ty35 rfl rfl rfl rfl rfl rfl rfl rfl) rfl rfl fun _=>RS.nil (hK12 _ _ (cq [(1,_),(2,_)] ?_))))))
    refine T.region (rp (Pu.fieldAddr fd37_4 rfl) (rq (Qt.ldB 0 ty35 rfl rfl rfl) ?_))
    obtain ⟨x18,hx18,H⟩:=bindE H
    refine rq (Qt.call (vs:=[.slice p0 a0_c.units.length c0]) ent185 rfl fun w s=>command_units_walk a0_c.units w ((Rd.base hb0) w s) hx18) (rA rfl (RS.nil (hK3 _ _ (cq [(2,_),(3,_)] ?_))))
    refine T.seq fun K13 hK13=>T.region (rq (Qt.ldBA (us:=[_,_,_,_,_,_,_,_,_,_]) 1 ty37 rfl rfl rfl rfl) (rM rfl (RS.solid (Sd.stB (cs':=[_,_,_,_,_,_,_,_,_,_]) 1 ty37 rfl rfl rfl rfl rfl rfl rfl rfl) rfl rfl fun _=>rA rfl (RS.nil (hK13 _ _ ?_)))))
    obtain rfl:=sj H
    refine T.rt (Cont.retCT 1 rfl ty37 rfl rfl rfl rfl fun w' s=>?_)
    exact ⟨.slice p0 a0_c.units.length c0,rfl,(s.addPc h0).pick [2] (by decide) rfl⟩
   ·have H:=ifF hc17 H
    refine cq [(1,_),(2,_),(3,_),(12,_)] ?_
    refine T.seq fun K14 hK14=>T.region (rp (Pu.bin rfl rfl rfl) (rA rfl (RS.nil (hK14 _ _ ?_))))
    refine T.condP rfl (fun hc19=>?_) (fun hc19=>?_)
    ·have H:=ifT hc19 H
     refine cq [(1,_),(2,_)] ?_
     refine T.seq fun K15 hK15=>?_
     refine T.drawnS [0] [(0,.pu),(1,.rd),(2,.pu),(3,.wk),(4,.pu),(5,.wk),(6,.pu),(7,.br),(8,.pu),(9,.br),(10,.pu),(11,.br)] mixed (by kernel_rfl) rfl ?_
     refine RD.p (fun w s=>s.pick [0] (by decide) rfl) rfl (Pu.fieldAddr fd37_5 rfl) rfl rfl (RD.q (fun w s=>s.pick [0] (by decide) rfl) rfl (Qt.ldB 0 ty3 rfl rfl rfl) rfl rfl (RD.p (fun w s=>s.pick [0] (by decide) rfl) rfl (Pu.fieldAddr fd37_6 rfl) rfl rfl ?_))
     refine RD.w (fun w s=>s.pick [0] (by decide) rfl) rfl (Qt.ldB 0 ty3 rfl rfl rfl) rfl rfl ?_
     refine RD.p (fun w s=>s.pick [0] (by decide) rfl) rfl (Pu.fieldAddr fd37_7 rfl) rfl rfl ?_
     refine RD.w (fun w s=>s.pick [0] (by decide) rfl) rfl (Qt.ldB 0 ty3 rfl rfl rfl) rfl rfl ?_
     refine RD.p (fun w s=>s.pick [0] (by decide) rfl) rfl (Pu.fieldAddr fd37_5 rfl) rfl rfl (RD.solid rfl (.inr rfl) rfl rfl (Sd.stB (cs':=[_,_,_,_,_,_,_,_,_,_]) 1 ty3 rfl rfl rfl rfl rfl rfl rfl rfl) (fun _=>ClE.sat _ _) (fun _ w s=>s.pick [0] (by decide) rfl) (fun h=>nomatch h) fun _=>?_)
     refine RD.p (fun w s=>s.pick [0] (by decide) rfl) rfl (Pu.fieldAddr fd37_6 rfl) rfl rfl (RD.solid rfl (.inr rfl) rfl rfl (Sd.stB (cs':=[_,_,_,_,_,_,_,_,_,_]) 1 ty3 rfl rfl rfl rfl rfl rfl rfl rfl) (fun _=>ClE.sat _ _) (fun _ w s=>s.pick [0] (by decide) rfl) (fun h=>nomatch h) fun _=>?_)
     refine RD.p (fun w s=>s.pick [0] (by decide) rfl) rfl (Pu.fieldAddr fd37_7 rfl) rfl rfl (RD.solid rfl (.inr rfl) rfl rfl (Sd.stB (cs':=[_,_,_,_,_,_,_,_,_,_]) 1 ty3 rfl rfl rfl rfl rfl rfl rfl rfl) (fun _=>ClE.sat _ _) (fun _ w s=>s.pick [0] (by decide) rfl) (fun h=>nomatch h) fun _=>?_)
     refine RD.nil (hK15 _ _ (cq [(1,_),(2,_)] ?_))
     refine T.region (rp (Pu.fieldAddr fd37_5 rfl) (rq (Qt.ldB 0 ty3 rfl rfl rfl) ?_))
     obtain ⟨x20,hx20,H⟩:=bindE H
     refine rq (Qt.call (vs:=[.int .i64 a0_c.tile,.int .i64 0,.int .i64 16383]) ent125 rfl fun w s=>command_within_walk a0_c.tile 0 16383 w  hx20) (rM rfl ?_)
     refine RS.joinB H 4 71 (fun b23=>.bool b23) [(1,_),(2,_)] ⟨rfl,rfl,trivial⟩ ?_ ?_
     ·intro b23 H
      refine rM rfl ?_
      refine RS.joinB H 4 76 (fun b26=>.bool b26) [(2,_)] ⟨rfl,trivial⟩ ?_ ?_
      ·intro b26 H
       refine rA rfl (RS.nil (hK3 _ _ ?_))
       refine T.seq fun K16 hK16=>T.region (rq (Qt.ldBA (us:=[_,_,_,_,_,_,_,_,_,_]) 1 ty37 rfl rfl rfl rfl) (rM rfl (RS.solid (Sd.stB (cs':=[_,_,_,_,_,_,_,_,_,_]) 1 ty37 rfl rfl rfl rfl rfl rfl rfl rfl) rfl rfl fun _=>rA rfl (RS.nil (hK16 _ _ (cq [(2,_),(3,_)] ?_))))))
       obtain rfl:=sj H
       refine T.rt (Cont.retCT 1 rfl ty37 rfl rfl rfl rfl fun w' s=>?_)
       exact ⟨.slice none 0 0,rfl,(s.addPc ⟨none,0,rfl,by simp,by decide,.inl rfl⟩).pick [2] (by decide) rfl⟩
      ·intro z27 H hJ25
       refine RS.split 72 rfl (fun hc24=>?_) (fun hc24=>?_)
       ·have H:=ifT hc24 H
        refine rp (Pu.fieldAddr fd37_7 rfl) (rq (Qt.ldB 0 ty3 rfl rfl rfl) ?_)
        obtain ⟨x28,hx28,H⟩:=bindE H
        refine rq (Qt.call (vs:=[.int .i64 a0_c.h,.int .i64 1,.int .i64 4]) ent125 rfl fun w s=>command_within_walk a0_c.h 1 4 w  hx28) (rp (Pu.pickT rfl rfl) ?_)
        obtain rfl:=sj H
        exact hJ25 _ _ ⟨rfl,rfl,trivial⟩ (fun w s=>s)
       ·have H:=ifB hc24 H
        refine ro (ro (ro (rp (Pu.pickF rfl rfl) ?_)))
        obtain rfl:=sj H
        exact hJ25 _ _ ⟨rfl,rfl,trivial⟩ (fun w s=>s)
     ·intro z29 H hJ22
      refine RS.split 67 rfl (fun hc21=>?_) (fun hc21=>?_)
      ·have H:=ifT hc21 H
       refine rp (Pu.fieldAddr fd37_6 rfl) (rq (Qt.ldB 0 ty3 rfl rfl rfl) ?_)
       obtain ⟨x30,hx30,H⟩:=bindE H
       refine rq (Qt.call (vs:=[.int .i64 a0_c.w,.int .i64 1,.int .i64 4]) ent125 rfl fun w s=>command_within_walk a0_c.w 1 4 w  hx30) (rp (Pu.pickT rfl rfl) ?_)
       obtain rfl:=sj H
       exact hJ22 _ _ ⟨rfl,rfl,rfl,trivial⟩ (fun w s=>s)
      ·have H:=ifB hc21 H
       refine ro (ro (ro (rp (Pu.pickF rfl rfl) ?_)))
       obtain rfl:=sj H
       exact hJ22 _ _ ⟨rfl,rfl,rfl,trivial⟩ (fun w s=>s)
    ·have H:=ifF hc19 H
     refine T.seq fun K17 hK17=>T.region (rp (Pu.bin rfl rfl rfl) (rA rfl (RS.nil (hK17 _ _ ?_))))
     refine T.condP rfl (fun hc31=>?_) (fun hc31=>?_)
     ·have H:=ifT hc31 H
      refine cq [(1,_),(2,_)] ?_
      refine T.seq fun K18 hK18=>T.region (rp (Pu.fieldAddr fd37_3 rfl) (rq (Qt.ldB 0 ty3 rfl rfl rfl) (rp (Pu.fieldAddr fd37_3 rfl) (RS.solid (Sd.stB (cs':=[_,_,_,_,_,_,_,_,_,_]) 1 ty3 rfl rfl rfl rfl rfl rfl rfl rfl) rfl rfl fun _=>RS.nil (hK18 _ _ (cq [(1,_),(2,_)] ?_))))))
      refine T.region (rp (Pu.fieldAddr fd37_3 rfl) (rq (Qt.ldB 0 ty3 rfl rfl rfl) ?_))
      obtain ⟨x32,hx32,H⟩:=bindE H
      refine rq (Qt.call (vs:=[.int .i64 a0_c.n,.int .i64 1,.int .i64 1099511627776]) ent125 rfl fun w s=>command_within_walk a0_c.n 1 1099511627776 w  hx32) (rA rfl (RS.nil (hK3 _ _ (cq [(2,_),(3,_)] ?_))))
      refine T.seq fun K19 hK19=>T.region (rq (Qt.ldBA (us:=[_,_,_,_,_,_,_,_,_,_]) 1 ty37 rfl rfl rfl rfl) (rM rfl (RS.solid (Sd.stB (cs':=[_,_,_,_,_,_,_,_,_,_]) 1 ty37 rfl rfl rfl rfl rfl rfl rfl rfl) rfl rfl fun _=>rA rfl (RS.nil (hK19 _ _ ?_)))))
      obtain rfl:=sj H
      refine T.rt (Cont.retCT 1 rfl ty37 rfl rfl rfl rfl fun w' s=>?_)
      exact ⟨.slice none 0 0,rfl,(s.addPc ⟨none,0,rfl,by simp,by decide,.inl rfl⟩).pick [2] (by decide) rfl⟩
     ·have H:=ifF hc31 H
      refine cq [(1,_),(2,_),(3,_),(12,_)] ?_
      refine T.seq fun K20 hK20=>T.region (rp (Pu.bin rfl rfl rfl) (rA rfl (RS.nil (hK20 _ _ ?_))))
      refine T.condP rfl (fun hc33=>?_) (fun hc33=>?_)
      ·have H:=ifT hc33 H
       refine cq [(1,_),(2,_)] ?_
       refine T.seq fun K21 hK21=>?_
       refine T.drawnS [0] [(0,.pu),(1,.rd),(2,.pu),(3,.wk),(4,.pu),(5,.br),(6,.pu),(7,.br)] mixed (by kernel_rfl) rfl ?_
       refine RD.p (fun w s=>s.pick [0] (by decide) rfl) rfl (Pu.fieldAddr fd37_4 rfl) rfl rfl (RD.q (fun w s=>s.pick [0] (by decide) rfl) rfl (Qt.ldB 0 ty35 rfl rfl rfl) rfl rfl (RD.p (fun w s=>s.pick [0] (by decide) rfl) rfl (Pu.fieldAddr fd37_3 rfl) rfl rfl ?_))
       refine RD.w (fun w s=>s.pick [0] (by decide) rfl) rfl (Qt.ldB 0 ty3 rfl rfl rfl) rfl rfl ?_
       refine RD.p (fun w s=>s.pick [0] (by decide) rfl) rfl (Pu.fieldAddr fd37_4 rfl) rfl rfl (RD.solid rfl (.inr rfl) rfl rfl (Sd.stB (cs':=[_,_,_,_,_,_,_,_,_,_]) 1 ty35 rfl rfl rfl rfl rfl rfl rfl rfl) (fun _=>ClE.sat _ _) (fun _ w s=>s.pick [0] (by decide) rfl) (fun h=>nomatch h) fun _=>?_)
       refine RD.p (fun w s=>s.pick [0] (by decide) rfl) rfl (Pu.fieldAddr fd37_3 rfl) rfl rfl (RD.solid rfl (.inr rfl) rfl rfl (Sd.stB (cs':=[_,_,_,_,_,_,_,_,_,_]) 1 ty3 rfl rfl rfl rfl rfl rfl rfl rfl) (fun _=>ClE.sat _ _) (fun _ w s=>s.pick [0] (by decide) rfl) (fun h=>nomatch h) fun _=>?_)
       refine RD.nil (hK21 _ _ (cq [(1,_),(2,_)] ?_))
       refine T.region (rp (Pu.fieldAddr fd37_4 rfl) (rq (Qt.ldB 0 ty35 rfl rfl rfl) ?_))
       obtain ⟨x34,hx34,H⟩:=bindE H
       refine rq (Qt.call (vs:=[.slice p0 a0_c.units.length c0]) ent185 rfl fun w s=>command_units_walk a0_c.units w ((Rd.base hb0) w s) hx34) (rM rfl ?_)
       refine RS.joinB H 4 100 (fun b37=>.bool b37) [(2,_)] ⟨rfl,trivial⟩ ?_ ?_
       ·intro b37 H
        refine rA rfl (RS.nil (hK3 _ _ ?_))
        refine T.seq fun K22 hK22=>T.region (rq (Qt.ldBA (us:=[_,_,_,_,_,_,_,_,_,_]) 1 ty37 rfl rfl rfl rfl) (rM rfl (RS.solid (Sd.stB (cs':=[_,_,_,_,_,_,_,_,_,_]) 1 ty37 rfl rfl rfl rfl rfl rfl rfl rfl) rfl rfl fun _=>rA rfl (RS.nil (hK22 _ _ (cq [(2,_),(3,_)] ?_))))))
        obtain rfl:=sj H
        refine T.rt (Cont.retCT 1 rfl ty37 rfl rfl rfl rfl fun w' s=>?_)
        exact ⟨.slice p0 a0_c.units.length c0,rfl,(s.addPc h0).pick [2] (by decide) rfl⟩
       ·intro z38 H hJ36
        refine RS.split 96 rfl (fun hc35=>?_) (fun hc35=>?_)
        ·have H:=ifT hc35 H
         refine rp (Pu.fieldAddr fd37_3 rfl) (rq (Qt.ldB 0 ty3 rfl rfl rfl) ?_)
         obtain ⟨x39,hx39,H⟩:=bindE H
         refine rq (Qt.call (vs:=[.int .i64 a0_c.n,.int .i64 1,.int .i64 1099511627776]) ent125 rfl fun w s=>command_within_walk a0_c.n 1 1099511627776 w  hx39) (rp (Pu.pickT rfl rfl) ?_)
         obtain rfl:=sj H
         exact hJ36 _ _ ⟨rfl,rfl,trivial⟩ (fun w s=>s)
        ·have H:=ifB hc35 H
         refine ro (ro (ro (rp (Pu.pickF rfl rfl) ?_)))
         obtain rfl:=sj H
         exact hJ36 _ _ ⟨rfl,rfl,trivial⟩ (fun w s=>s)
      ·have H:=ifF hc33 H
       refine T.seq fun K23 hK23=>T.region (rp (Pu.bin rfl rfl rfl) (rA rfl (RS.nil (hK23 _ _ ?_))))
       refine T.condP rfl (fun hc40=>?_) (fun hc40=>?_)
       ·have H:=ifT hc40 H
        refine cq [(1,_),(2,_)] ?_
        refine T.seq fun K24 hK24=>?_
        refine T.drawnS [0] [(0,.pu),(1,.rd),(2,.pu),(3,.wk),(4,.pu),(5,.br),(6,.pu),(7,.br)] mixed (by kernel_rfl) rfl ?_
        refine RD.p (fun w s=>s.pick [0] (by decide) rfl) rfl (Pu.fieldAddr fd37_3 rfl) rfl rfl (RD.q (fun w s=>s.pick [0] (by decide) rfl) rfl (Qt.ldB 0 ty3 rfl rfl rfl) rfl rfl (RD.p (fun w s=>s.pick [0] (by decide) rfl) rfl (Pu.fieldAddr fd37_5 rfl) rfl rfl ?_))
        refine RD.w (fun w s=>s.pick [0] (by decide) rfl) rfl (Qt.ldB 0 ty3 rfl rfl rfl) rfl rfl ?_
        refine RD.p (fun w s=>s.pick [0] (by decide) rfl) rfl (Pu.fieldAddr fd37_3 rfl) rfl rfl (RD.solid rfl (.inr rfl) rfl rfl (Sd.stB (cs':=[_,_,_,_,_,_,_,_,_,_]) 1 ty3 rfl rfl rfl rfl rfl rfl rfl rfl) (fun _=>ClE.sat _ _) (fun _ w s=>s.pick [0] (by decide) rfl) (fun h=>nomatch h) fun _=>?_)
        refine RD.p (fun w s=>s.pick [0] (by decide) rfl) rfl (Pu.fieldAddr fd37_5 rfl) rfl rfl (RD.solid rfl (.inr rfl) rfl rfl (Sd.stB (cs':=[_,_,_,_,_,_,_,_,_,_]) 1 ty3 rfl rfl rfl rfl rfl rfl rfl rfl) (fun _=>ClE.sat _ _) (fun _ w s=>s.pick [0] (by decide) rfl) (fun h=>nomatch h) fun _=>?_)
        refine RD.nil (hK24 _ _ (cq [(1,_),(2,_)] ?_))
        refine T.region (rp (Pu.fieldAddr fd37_3 rfl) (rq (Qt.ldB 0 ty3 rfl rfl rfl) ?_))
        obtain ⟨x41,hx41,H⟩:=bindE H
        refine rq (Qt.call (vs:=[.int .i64 a0_c.n,.int .i64 1,.int .i64 1099511627776]) ent125 rfl fun w s=>command_within_walk a0_c.n 1 1099511627776 w  hx41) (rM rfl ?_)
        refine RS.joinB H 4 116 (fun b44=>.bool b44) [(2,_)] ⟨rfl,trivial⟩ ?_ ?_
        ·intro b44 H
         refine rA rfl (RS.nil (hK3 _ _ ?_))
         refine T.seq fun K25 hK25=>T.region (rq (Qt.ldBA (us:=[_,_,_,_,_,_,_,_,_,_]) 1 ty37 rfl rfl rfl rfl) (rM rfl (RS.solid (Sd.stB (cs':=[_,_,_,_,_,_,_,_,_,_]) 1 ty37 rfl rfl rfl rfl rfl rfl rfl rfl) rfl rfl fun _=>rA rfl (RS.nil (hK25 _ _ (cq [(2,_),(3,_)] ?_))))))
         obtain rfl:=sj H
         refine T.rt (Cont.retCT 1 rfl ty37 rfl rfl rfl rfl fun w' s=>?_)
         exact ⟨.slice none 0 0,rfl,(s.addPc ⟨none,0,rfl,by simp,by decide,.inl rfl⟩).pick [2] (by decide) rfl⟩
        ·intro z45 H hJ43
         refine RS.split 112 rfl (fun hc42=>?_) (fun hc42=>?_)
         ·have H:=ifT hc42 H
          refine rp (Pu.fieldAddr fd37_5 rfl) (rq (Qt.ldB 0 ty3 rfl rfl rfl) ?_)
          obtain ⟨x46,hx46,H⟩:=bindE H
          refine rq (Qt.call (vs:=[.int .i64 a0_c.tile,.int .i64 0,.int .i64 16383]) ent125 rfl fun w s=>command_within_walk a0_c.tile 0 16383 w  hx46) (rp (Pu.pickT rfl rfl) ?_)
          obtain rfl:=sj H
          exact hJ43 _ _ ⟨rfl,rfl,trivial⟩ (fun w s=>s)
         ·have H:=ifB hc42 H
          refine ro (ro (ro (rp (Pu.pickF rfl rfl) ?_)))
          obtain rfl:=sj H
          exact hJ43 _ _ ⟨rfl,rfl,trivial⟩ (fun w s=>s)
       ·have H:=ifF hc40 H
        refine T.skip (hK3 _ _ (cq [(2,_),(3,_)] ?_))
        refine T.seq fun K26 hK26=>T.region (rq (Qt.ldBA (us:=[_,_,_,_,_,_,_,_,_,_]) 1 ty37 rfl rfl rfl rfl) (rM rfl (RS.solid (Sd.stB (cs':=[_,_,_,_,_,_,_,_,_,_]) 1 ty37 rfl rfl rfl rfl rfl rfl rfl rfl) rfl rfl fun _=>rA rfl (RS.nil (hK26 _ _ ?_)))))
        obtain rfl:=sj H
        refine T.rt (Cont.retCT 1 rfl ty37 rfl rfl rfl rfl fun w' s=>?_)
        exact ⟨.slice none 0 0,rfl,(s.addPc ⟨none,0,rfl,by simp,by decide,.inl rfl⟩).pick [2] (by decide) rfl⟩
theorem command_May_walk (a0_c:Cmd) (w:World) {v0:Value} (h0:R (hpOf w) a0_c.units [v0]) {r:Bool} (H:command_May a0_c = some r):Calls Tryz.prog 76 #[.agg #[.int .i64 a0_c.player,.int .i64 a0_c.seq,.int .i64 a0_c.kind,.int .i64 a0_c.n,v0,.int .i64 a0_c.tile,.int .i64 a0_c.w,.int .i64 a0_c.h,.int .i64 a0_c.pos.x,.int .i64 a0_c.pos.y]] w fun e w'=>e = .returned (.bool r)∧Ext w w':=by
 have hm0:=R_max h0
 obtain ⟨p0,c0,rfl⟩:=R_form h0
 unfold command_May at H
 refine T.enter (args:=[_]) (S:=Sat w []) Tryz.func76 rfl rfl (Sat.start w) ?_
 refine T.seq fun K1 hK1=>T.region (RS.solid (Sd.box (cs:=[_,_,_,_,_,_,_,_,_,_]) rfl rfl) rfl rfl fun b1=>rA rfl (RS.nil (hK1 _ _ ?_)))
 refine T.seq fun K2 hK2=>T.region (rq (Qt.ldBA (us:=[_,_,_,_,_,_,_,_,_,_]) 0 ty37 rfl rfl rfl rfl) ?_)
 obtain ⟨x2,hx2,H⟩:=bindE H
 refine RS.solid (Sd.callN (vs:=[.agg #[.int .i64 a0_c.player,.int .i64 a0_c.seq,.int .i64 a0_c.kind,.int .i64 a0_c.n,.slice p0 a0_c.units.length c0,.int .i64 a0_c.tile,.int .i64 a0_c.w,.int .i64 a0_c.h,.int .i64 a0_c.pos.x,.int .i64 a0_c.pos.y]]) ent124 rfl (fun w s=>command_only_walk a0_c w (_) (s.ext.hp) (h0) hx2)) rfl rfl fun u3=>?_
 refine RS.know (fun w s=>s.getPc 1 rfl) fun hu4=>?_
 obtain ⟨p5,cc6,rfl⟩:=R_form hu4
 refine rM rfl (rp (Pu.extract rfl rfl) (rp (Pu.extract rfl rfl) (RS.solid (Sd.alloc zr37 rfl) rfl rfl fun b7=>RS.solid (Sd.stB (cs':=[_,_,_,_,_,_,_,_,_,_]) 2 ty37 rfl rfl rfl rfl rfl rfl rfl rfl) rfl rfl fun _=>rA rfl (RS.nil (hK2 _ _ (cq [(1,_),(3,_),(4,_)] ?_))))))
 refine T.seq fun K3 hK3=>T.region (rM rfl (rM rfl ?_))
 refine RS.joinB H 4 15 (fun b10=>.bool b10) [(1,_),(3,_)] ⟨rfl,rfl,trivial⟩ ?_ ?_
 ·intro b10 H
  refine rM rfl ?_
  refine RS.joinB H 4 20 (fun b13=>.bool b13) [(1,_),(3,_)] ⟨rfl,rfl,trivial⟩ ?_ ?_
  ·intro b13 H
   refine rM rfl ?_
   refine RS.joinV 6 27 (.bool (decide ((b13 = true)∧(x2.1.n = a0_c.n)))) [(1,_),(3,_)] ⟨rfl,rfl,trivial⟩ ?_ ?_
   ·refine rM rfl ?_
    refine RS.joinV 6 34 (.bool (decide (((b13 = true)∧(x2.1.n = a0_c.n))∧(x2.1.pos = a0_c.pos)))) [(1,_),(3,_)] ⟨rfl,rfl,trivial⟩ ?_ ?_
    ·refine rM rfl ?_
     refine RS.joinV 6 41 (.bool (decide ((((b13 = true)∧(x2.1.n = a0_c.n))∧(x2.1.pos = a0_c.pos))∧(x2.1.tile = a0_c.tile)))) [(1,_),(3,_)] ⟨rfl,rfl,trivial⟩ ?_ ?_
     ·refine rM rfl ?_
      refine RS.joinV 6 48 (.bool (decide (((((b13 = true)∧(x2.1.n = a0_c.n))∧(x2.1.pos = a0_c.pos))∧(x2.1.tile = a0_c.tile))∧(x2.1.w = a0_c.w)))) [(1,_),(3,_)] ⟨rfl,rfl,trivial⟩ ?_ ?_
      ·refine rM rfl ?_
       refine RS.joinV 6 55 (.bool (decide ((((((b13 = true)∧(x2.1.n = a0_c.n))∧(x2.1.pos = a0_c.pos))∧(x2.1.tile = a0_c.tile))∧(x2.1.w = a0_c.w))∧(x2.1.h = a0_c.h)))) [(1,_),(3,_)] ⟨rfl,rfl,trivial⟩ ?_ ?_
       ·refine rM rfl ?_
        refine RS.joinV 8 64 (.bool (decide (((((((b13 = true)∧(x2.1.n = a0_c.n))∧(x2.1.pos = a0_c.pos))∧(x2.1.tile = a0_c.tile))∧(x2.1.w = a0_c.w))∧(x2.1.h = a0_c.h))∧((x2.1.units.length:Int) = (a0_c.units.length:Int))))) [] trivial ?_ ?_
        ·refine rA rfl (RS.nil (hK3 _ _ ?_))
         obtain rfl:=sj H
         refine T.rt (Cont.ret1 rfl rfl fun w' s=>?_)
         exact ⟨rfl,s.ext⟩
        ·intro hJ25
         refine RS.splitP 56 rfl (fun hc24=>?_) (fun hc24=>?_)
         ·refine rp (Pu.fieldAddr fd37_4 rfl) (rq (Qt.ldB 2 ty35 rfl rfl rfl) (rp (Pu.lenSl sl35 rfl) (rp (Pu.fieldAddr fd37_4 rfl) (rq (Qt.ldB 0 ty35 rfl rfl rfl) (rp (Pu.lenSl sl35 rfl) (rp (Pu.bin rfl rfl rfl) (rp (Pu.pickT rfl rfl) ?_)))))))
          exact hJ25 _ _ ⟨dAndT hc24,trivial⟩ (fun w s=>s)
         ·refine ro (ro (ro (ro (ro (ro (ro (rp (Pu.pickF rfl rfl) ?_)))))))
          exact hJ25 _ _ ⟨dAndF hc24,trivial⟩ (fun w s=>s)
       ·intro hJ23
        refine RS.splitP 49 rfl (fun hc22=>?_) (fun hc22=>?_)
        ·refine rp (Pu.fieldAddr fd37_7 rfl) (rq (Qt.ldB 2 ty3 rfl rfl rfl) (rp (Pu.fieldAddr fd37_7 rfl) (rq (Qt.ldB 0 ty3 rfl rfl rfl) (rp (Pu.bin rfl rfl rfl) (rp (Pu.pickT rfl rfl) ?_)))))
         exact hJ23 _ _ ⟨dAndT hc22,rfl,rfl,trivial⟩ (fun w s=>s)
        ·refine ro (ro (ro (ro (ro (rp (Pu.pickF rfl rfl) ?_)))))
         exact hJ23 _ _ ⟨dAndF hc22,rfl,rfl,trivial⟩ (fun w s=>s)
      ·intro hJ21
       refine RS.splitP 42 rfl (fun hc20=>?_) (fun hc20=>?_)
       ·refine rp (Pu.fieldAddr fd37_6 rfl) (rq (Qt.ldB 2 ty3 rfl rfl rfl) (rp (Pu.fieldAddr fd37_6 rfl) (rq (Qt.ldB 0 ty3 rfl rfl rfl) (rp (Pu.bin rfl rfl rfl) (rp (Pu.pickT rfl rfl) ?_)))))
        exact hJ21 _ _ ⟨dAndT hc20,rfl,rfl,trivial⟩ (fun w s=>s)
       ·refine ro (ro (ro (ro (ro (rp (Pu.pickF rfl rfl) ?_)))))
        exact hJ21 _ _ ⟨dAndF hc20,rfl,rfl,trivial⟩ (fun w s=>s)
     ·intro hJ19
      refine RS.splitP 35 rfl (fun hc18=>?_) (fun hc18=>?_)
      ·refine rp (Pu.fieldAddr fd37_5 rfl) (rq (Qt.ldB 2 ty3 rfl rfl rfl) (rp (Pu.fieldAddr fd37_5 rfl) (rq (Qt.ldB 0 ty3 rfl rfl rfl) (rp (Pu.bin rfl rfl rfl) (rp (Pu.pickT rfl rfl) ?_)))))
       exact hJ19 _ _ ⟨dAndT hc18,rfl,rfl,trivial⟩ (fun w s=>s)
      ·refine ro (ro (ro (ro (ro (rp (Pu.pickF rfl rfl) ?_)))))
       exact hJ19 _ _ ⟨dAndF hc18,rfl,rfl,trivial⟩ (fun w s=>s)
    ·intro hJ17
     refine RS.splitP 28 rfl (fun hc16=>?_) (fun hc16=>?_)
     ·refine rp (Pu.fieldAddr fd37_8 rfl) (rq (Qt.ldBA (us:=[_,_]) 2 ty33 rfl rfl rfl rfl) (rp (Pu.fieldAddr fd37_8 rfl) (rq (Qt.ldBA (us:=[_,_]) 0 ty33 rfl rfl rfl rfl) (rp (Pu.eqSt eqt33 rfl rfl rfl (eq_Vec x2.1.pos a0_c.pos)) (rp (Pu.pickT rfl rfl) ?_)))))
      exact hJ17 _ _ ⟨dAndT hc16,rfl,rfl,trivial⟩ (fun w s=>s)
     ·refine ro (ro (ro (ro (ro (rp (Pu.pickF rfl rfl) ?_)))))
      exact hJ17 _ _ ⟨dAndF hc16,rfl,rfl,trivial⟩ (fun w s=>s)
   ·intro hJ15
    refine RS.split 21 rfl (fun hc14=>?_) (fun hc14=>?_)
    ·refine rp (Pu.fieldAddr fd37_3 rfl) (rq (Qt.ldB 2 ty3 rfl rfl rfl) (rp (Pu.fieldAddr fd37_3 rfl) (rq (Qt.ldB 0 ty3 rfl rfl rfl) (rp (Pu.bin rfl rfl rfl) (rp (Pu.pickT rfl rfl) ?_)))))
     exact hJ15 _ _ ⟨dAndT hc14,rfl,rfl,trivial⟩ (fun w s=>s)
    ·refine ro (ro (ro (ro (ro (rp (Pu.pickF rfl rfl) ?_)))))
     exact hJ15 _ _ ⟨dAndF (bne_of hc14),rfl,rfl,trivial⟩ (fun w s=>s)
  ·intro z26 H hJ12
   refine RS.split 16 rfl (fun hc11=>?_) (fun hc11=>?_)
   ·have H:=ifT hc11 H
    refine rp (Pu.fieldAddr fd37_1 rfl) (rq (Qt.ldB 0 ty3 rfl rfl rfl) ?_)
    obtain ⟨x27,hx27,H⟩:=bindE H
    refine rq (Qt.call (vs:=[.int .i64 a0_c.seq,.int .i64 0,.int .i64 1099511627776]) ent125 rfl fun w s=>command_within_walk a0_c.seq 0 1099511627776 w  hx27) (rp (Pu.pickT rfl rfl) ?_)
    obtain rfl:=sj H
    exact hJ12 _ _ ⟨rfl,rfl,rfl,trivial⟩ (fun w s=>s)
   ·have H:=ifB hc11 H
    refine ro (ro (ro (rp (Pu.pickF rfl rfl) ?_)))
    obtain rfl:=sj H
    exact hJ12 _ _ ⟨rfl,rfl,rfl,trivial⟩ (fun w s=>s)
 ·intro z28 H hJ9
  refine RS.split 11 rfl (fun hc8=>?_) (fun hc8=>?_)
  ·have H:=ifT hc8 H
   refine rp (Pu.fieldAddr fd37_0 rfl) (rq (Qt.ldB 0 ty3 rfl rfl rfl) ?_)
   obtain ⟨x29,hx29,H⟩:=bindE H
   refine rq (Qt.call (vs:=[.int .i64 a0_c.player,.int .i64 1,.int .i64 8]) ent125 rfl fun w s=>command_within_walk a0_c.player 1 8 w  hx29) (rp (Pu.pickT rfl rfl) ?_)
   obtain rfl:=sj H
   exact hJ9 _ _ ⟨rfl,rfl,rfl,trivial⟩ (fun w s=>s)
  ·have H:=ifB hc8 H
   refine ro (ro (ro (rp (Pu.pickF rfl rfl) ?_)))
   obtain rfl:=sj H
   exact hJ9 _ _ ⟨rfl,rfl,rfl,trivial⟩ (fun w s=>s)
theorem command_Own_walk (a0_c:Cmd) (w:World) {v0:Value} (h0:R (hpOf w) a0_c.units [v0]) {r:Cmd} (H:command_Own a0_c = some r):Calls Tryz.prog 153 #[.agg #[.int .i64 a0_c.player,.int .i64 a0_c.seq,.int .i64 a0_c.kind,.int .i64 a0_c.n,v0,.int .i64 a0_c.tile,.int .i64 a0_c.w,.int .i64 a0_c.h,.int .i64 a0_c.pos.x,.int .i64 a0_c.pos.y]] w fun e w'=>∃ q1:(Option Nat × Nat),e = .returned (.agg #[.int .i64 r.player,.int .i64 r.seq,.int .i64 r.kind,.int .i64 r.n,rowV q1 r.units.length,.int .i64 r.tile,.int .i64 r.w,.int .i64 r.h,.int .i64 r.pos.x,.int .i64 r.pos.y])∧Sat w [row nilH 3 (rowV q1 r.units.length) r.units] w':=by
 have hm0:=R_max h0
 obtain ⟨p0,c0,rfl⟩:=R_form h0
 unfold command_Own at H
 refine T.enter (args:=[_]) (S:=Sat w []) Tryz.func153 rfl rfl (Sat.start w) ?_
 refine T.seq fun K1 hK1=>T.region (RS.solid (Sd.box (cs:=[_,_,_,_,_,_,_,_,_,_]) rfl rfl) rfl rfl fun b1=>RS.solid (Sd.alloc zr37 rfl) rfl rfl fun b2=>RS.nil (hK1 _ _ ?_))
 refine T.seq fun K2 hK2=>T.region (rp (Pu.fieldAddr fd37_4 rfl) (rq (Qt.ldB 0 ty35 rfl rfl rfl) ?_))
 obtain ⟨x3,hx3,H⟩:=bindE H
 refine RS.solid (Sd.callN (vs:=[.slice p0 a0_c.units.length c0]) ent222 rfl (fun w s=>slices_Clone_Int_walk a0_c.units w ((Rd.base h0) w s) hx3)) rfl rfl fun q4=>rp (Pu.fieldAddr fd37_4 rfl) (RS.solid (Sd.stB (cs':=[_,_,_,_,_,_,_,_,_,_]) 0 ty35 rfl rfl rfl rfl rfl rfl rfl rfl) rfl rfl fun _=>RS.nil (hK2 _ _ (cq [(1,_),(2,_)] ?_)))
 refine T.seq fun K3 hK3=>T.region (rq (Qt.ldBA (us:=[_,_,_,_,_,_,_,_,_,_]) 0 ty37 rfl rfl rfl rfl) (RS.solid (Sd.stB (cs':=[_,_,_,_,_,_,_,_,_,_]) 1 ty37 rfl rfl rfl rfl rfl rfl rfl rfl) rfl rfl fun _=>RS.nil (hK3 _ _ ?_)))
 obtain rfl:=sj H
 refine T.rt (Cont.retC 1 rfl ty37 rfl rfl rfl fun w' s=>?_)
 exact ⟨q4,rfl,s.pick [2] (by decide) rfl⟩
theorem command_OwnAll_walk (a0_l:List Cmd) (w:World) {v0:Value} (h0:R (hpOf w) a0_l [v0]) {r:List Cmd} (H:command_OwnAll a0_l = some r):Calls Tryz.prog 104 #[v0] w fun e w'=>∃ q1:(Option Nat × Nat),e = .returned (rowV q1 r.length)∧Sat w [drow 37 (rowV q1 r.length) r] w':=by
 have hm0:=R_max h0
 obtain ⟨p0,c0,rfl⟩:=R_form h0
 unfold command_OwnAll at H
 refine T.enter (args:=[_]) (S:=Sat w []) Tryz.func104 rfl rfl (Sat.start w) ?_
 refine T.seq fun K1 hK1=>T.region (rA rfl (RS.nil (hK1 _ _ ?_)))
 refine T.seq fun K2 hK2=>T.seq fun K3 hK3=>T.region (rM rfl (rp (Pu.lenSl sl29 rfl) (rM rfl (RS.nil (hK3 _ _ ?_)))))
 refine T.joinE (σ:=List Cmd) (γ:=(Option Nat × Nat)) H (fun s=>s) [] trivial (fun v2 q3=>[(2,rowV q3 v2.length)]) (fun v2 q3=>Sat w [drow 37 (rowV q3 v2.length) v2]) ?_ ?_
 ·rintro v2 q3 H
  try dsimp only [Ex.then] at H
  refine Cont.conseq (fr':=[(2,_)]) ?_ ⟨rfl,trivial⟩ (fun _ s=>s)
  refine id (hK2 _ _ ?_)
  refine T.seq fun K4 hK4=>T.region (rM rfl (rA rfl (RS.nil (hK4 _ _ ?_))))
  obtain rfl:=sj H
  refine T.rt (Cont.ret1 rfl rfl fun w' s=>?_)
  exact ⟨q3,rfl,s.pick [0] (by decide) rfl⟩
 ·intro z1 hz1 HX1 hJ1
  refine T.block ?_
  refine T.loopA (γ:=(Option Nat × Nat)) hz1 [(5,_),(6,_)] (fun (l4,v6) q5=>[(2,rowV q5 l4.length),(7,.int .i64 v6)]) (fun (l4,v6) q5=>Sat w [drow 37 (rowV q5 l4.length) l4]) (none,0) ⟨rfl,rfl,trivial⟩ ⟨rfl,rfl,trivial⟩ (fun w s=>(s.nilRowG (α:=Cmd) 37).pick [0] (by decide) rfl) ?_
  rintro ⟨l4,v6⟩ q5 y7 H hd1 KL1 hL1
  try dsimp only [Ex.then] at H
  refine cq [(2,_),(7,_),(5,_),(6,_)] ?_
  refine T.seq fun K5 hK5=>T.region (rp (Pu.bin rfl rfl rfl) (RS.nil (hK5 _ _ ?_)))
  refine T.seq fun K6 hK6=>?_
  refine T.condP rfl (fun hc8=>?_) (fun hc8=>?_)
  ·have H:=ifT hc8 H
   refine T.skip (hK6 _ _ ?_)
   refine T.seq fun K7 hK7=>T.block (T.seq fun K8 hK8=>T.region ?_)
   obtain ⟨g9,H⟩:=gdE H
   obtain ⟨bl10,ol11,rfl⟩:=R_ptr h0 (ne_of_pos (pos_of g9))
   refine rp (Pu.indexSl sl29 rfl rfl g9) ?_
   obtain ⟨c12,hc13,ha14⟩:=R_el (α:=Cmd) h0 g9
   obtain ⟨u15,rfl,hu15⟩:=hc13
   obtain ⟨p16,cc17,rfl⟩:=R_form hu15
   refine rq (Qt.ldZ (cs:=[_,_,_,_,_,_,_,_,_,_]) ty37 rfl ha14 Held.base rfl) (RS.solid (Sd.alloc zr37 rfl) rfl rfl fun b18=>RS.solid (Sd.stB (cs':=[_,_,_,_,_,_,_,_,_,_]) 1 ty37 rfl rfl rfl rfl rfl rfl rfl rfl) rfl rfl fun _=>RS.nil (hK8 _ _ (cq [(2,_),(4,_),(5,_),(6,_),(7,_)] ?_)))
   refine T.region (rM rfl (rq (Qt.ldBA (us:=[_,_,_,_,_,_,_,_,_,_]) 1 ty37 rfl rfl rfl rfl) ?_))
   obtain ⟨x19,hx19,H⟩:=bindE H
   refine RS.solid (Sd.callN (vs:=[.agg #[.int .i64 (gi a0_l v6).player,.int .i64 (gi a0_l v6).seq,.int .i64 (gi a0_l v6).kind,.int .i64 (gi a0_l v6).n,.slice p16 ((gi a0_l v6).units).length cc17,.int .i64 (gi a0_l v6).tile,.int .i64 (gi a0_l v6).w,.int .i64 (gi a0_l v6).h,.int .i64 (((gi a0_l v6).pos).x),.int .i64 (((gi a0_l v6).pos).y)]]) ent153 rfl (fun w s=>command_Own_walk (gi a0_l v6) w ((Rd.base hu15) w s) hx19)) rfl rfl fun q20=>RS.solid (Sd.litS (cs:=[_,_,_,_,_,_,_,_,_,_]) sl29 zr37 rfl rfl rfl rfl rfl) rfl rfl fun b21=>?_
   obtain ⟨g23,H⟩:=gdE H
   refine RS.solid (Sd.pre (fun w s=>(Sat.starAt 2 4 (Sat.starAt 2 5 ((s.noStars).noStars) rfl rfl (by decide)) rfl rfl (by decide))) (Sd.appL (α:=Cmd) 0 3 2 ([x19]:List Cmd) rfl rfl rfl (DRF.cons' (α:=Cmd) (x:=x19) (fun _ h=>⟨_,rfl,h⟩) DRF.nil') rfl sl29 zr37 rfl rfl rfl rfl g23 (by decide))) rfl rfl fun q22=>rA rfl (RS.nil (hK7 _ _ (cq [(2,_),(5,_),(6,_),(7,_)] ?_)))
   refine T.region ?_
   obtain ⟨g24,H⟩:=gdE H
   refine rp (Pu.addS rfl rfl g24) (rM rfl (RS.nil (hL1 _ _ ((l4 ++ ([x19]:List Cmd)),(v6 + 1)) q22 H ⟨rfl,rfl,trivial⟩ ⟨rfl,rfl,trivial⟩ (fun w s=>s.pick [0] (by decide) rfl))))
  ·have H:=ifF hc8 H
   obtain rfl:=hd1 _ H
   refine T.xt (hJ1 _ _ l4 q5 HX1 trivial ⟨rfl,trivial⟩ (fun w s=>s))
end Go.Proofs.YtmngdgclldkcfaaGreat
set_option linter.unusedVariables false
set_option linter.unusedSimpArgs false
set_option maxRecDepth 20000
set_option maxHeartbeats 4000000
namespace Go.Proofs.YtmngdgclldkcfaaGreat
open Go.Vg
open Enc (R)
theorem ent116:Ent Tryz.prog 116:=⟨_,_,Tryz.func116,by kernel_rfl,rfl⟩
theorem ent36:Ent Tryz.prog 36:=⟨_,_,Tryz.func36,by kernel_rfl,rfl⟩
theorem ent37:Ent Tryz.prog 37:=⟨_,_,Tryz.func37,by kernel_rfl,rfl⟩
theorem ent38:Ent Tryz.prog 38:=⟨_,_,Tryz.func38,by kernel_rfl,rfl⟩
theorem ent41:Ent Tryz.prog 41:=⟨_,_,Tryz.func41,by kernel_rfl,rfl⟩
theorem ent69:Ent Tryz.prog 69:=⟨_,_,Tryz.func69,by kernel_rfl,rfl⟩
theorem ent71:Ent Tryz.prog 71:=⟨_,_,Tryz.func71,by kernel_rfl,rfl⟩
theorem ent73:Ent Tryz.prog 73:=⟨_,_,Tryz.func73,by kernel_rfl,rfl⟩
theorem fd105_0:fdOff Tryz.prog 105 0 = some 0:=by kernel_rfl
theorem fd105_1:fdOff Tryz.prog 105 1 = some 8:=by kernel_rfl
theorem fd164_0:fdOff Tryz.prog 164 0 = some 0:=by kernel_rfl
theorem fd185_0:fdOff Tryz.prog 185 0 = some 0:=by kernel_rfl
theorem st105:stTy Tryz.prog 105 = some ([.int .i64 0,.int .i64 0,.int .i64 0,.int .i64 0,.int .i64 0,.slice none 0 0,.slice none 0 0,.slice none 0 0,.pointer none],[(0,8),(8,1)]):=by kernel_rfl
theorem st164:stTy Tryz.prog 164 = some ([.int .i64 0,.int .i64 0,.int .i64 0,.int .i64 0,.int .i64 0,.slice none 0 0,.slice none 0 0,.slice none 0 0,.slice none 0 0,.slice none 0 0,.slice none 0 0,.pointer none],[(0,8),(8,3),(11,1)]):=by kernel_rfl
theorem st185:stTy Tryz.prog 185 = some ([.pointer none,.nilIface],[(0,1),(1,1)]):=by kernel_rfl
theorem st264:stTy Tryz.prog 264 = some ([.map none,.map none],[(0,1),(1,1)]):=by kernel_rfl
theorem ty100:tySz Tryz.prog 100 = some (1,false):=by kernel_rfl
theorem ty150:tySz Tryz.prog 150 = some (1,false):=by kernel_rfl
theorem ulF:Tryz.prog.underlying 100 = some (.pointer 147):=by kernel_rfl
theorem cells_New_quick (w:World):Calls Tryz.prog 116 #[] w fun e w'=>∃ g:Nat,e = .returned (.pointer (some ⟨g,0,none⟩))∧Ext w w':=by
 refine T.enter (args:=[]) (S:=Sat w []) Tryz.func116 rfl rfl (Sat.start w) ?_
 refine T.seq fun K1 hK1=>T.region (rA rfl (RS.nil (hK1 _ _ ?_)))
 refine T.seq fun K2 hK2=>T.region (RS.solid Sd.makeMapL rfl rfl fun ga=>?_)
 refine RS.solid Sd.makeMapL rfl rfl fun gb=>?_
 refine rp (Pu.build (cells:=[_,_]) st264 rfl rfl) (RS.solid (Sd.box (cs:=[_,_]) rfl rfl) rfl rfl fun b4=>rA rfl (RS.nil (hK2 _ _ (cq [(0,_)] ?_))))
 refine T.retTo (by with_reducible ((repeat (first | apply RetTo.seq | apply RetTo.blk)); exact RetTo.refl _)) (Cont.ret1 rfl rfl fun w' s=>?_)
 exact ⟨b4,rfl,s.ext⟩
theorem army_Open_quick (W:Wld) (w:World) {v0 v1 v2:Value} (h0:R (hpOf w) W.g.tiles [v0]) (h1:R (hpOf w) W.bs [v1]) (h2:R (hpOf w) W.us [v2]) (hu:W.us = []):Calls Tryz.prog 71 #[.agg #[.int .i64 W.tick,.int .i64 W.players,.int .i64 W.nextid,.int .i64 W.g.w,.int .i64 W.g.h,v0,v1,v2]] w fun e w'=>∃ z:Nat × Nat,e = .returned (.pointer (some ⟨z.1,0,none⟩))∧Sat w [blk z.1 [.int .i64 W.tick,.int .i64 W.players,.int .i64 W.nextid,.int .i64 W.g.w,.int .i64 W.g.h,v0,v1,v2,.slice none 0 0,.slice none 0 0,.slice none 0 0,.pointer (some ⟨z.2,0,none⟩)] 164] w':=by
 obtain ⟨p0,c0,rfl⟩:=R_form h0
 obtain ⟨p1,c1,rfl⟩:=R_form h1
 obtain ⟨p2,c2,rfl⟩:=R_form h2
 refine T.enter (args:=[_]) (S:=Sat w []) Tryz.func71 rfl rfl (Sat.start w) ?_
 refine T.seq fun K1 hK1=>T.region (RS.solid (Sd.box (cs:=[_,_,_,_,_,_,_,_]) rfl rfl) rfl rfl fun b1=>rA rfl (RS.nil (hK1 _ _ ?_)))
 refine T.seq fun K2 hK2=>?_
 refine T.drawn (fun _=>True) [(0,.rd),(1,.so),(2,.pu),(3,.so),(4,.pu)] mixed (ClE.sat _ _) (by kernel_rfl) ?_
 refine dq rfl (Qt.ldBA (us:=[_,_,_,_,_,_,_,_]) 0 ty52 rfl rfl rfl rfl) (RD.solid rfl (.inl rfl) rfl rfl (Sd.call ent116 rfl fun w1 s=>(cells_New_quick w1).mono fun e w2 h=>let ⟨g,h1,h2⟩:=h; ⟨g,h1,(s.grow h2:Sat _ _ w2)⟩) (fun _=>ClE.sat _ _) (fun _ _ _=>trivial) (fun _ _ _ s=>s) fun g7=>?_)
 refine dp rfl (Pu.build (cells:=[_,_,_,_,_,_,_,_,_,_,_,_]) st164 rfl rfl) (RD.solid rfl (.inl rfl) rfl rfl (Sd.box (cs:=[_,_,_,_,_,_,_,_,_,_,_,_]) rfl rfl) (fun _=>ClE.sat _ _) (fun _ _ _=>trivial) (fun _ _ _ s=>s.drop1) fun b9=>?_)
 refine dp rfl (Pu.assign rfl) (RD.nil (hK2 _ _ (cq [(1,_),(3,_)] ?_)))
 refine T.seq fun K3 hK3=>T.seq fun K4 hK4=>T.region (rp (Pu.fieldAddr fd52_5 rfl) (rq (Qt.ldB 0 ty50 rfl rfl rfl) (rp (Pu.lenSl sl50 rfl) (rM rfl (RS.nil (hK4 _ _ ?_))))))
 refine T.block ?_
 refine T.loopC (σ:=Unit) [(3,_),(11,_),(12,_)] (fun _=>[(13,.int .i64 0)]) (fun _=>True) (fun _=>0) () (trivial) ⟨rfl,rfl,rfl,trivial⟩ ⟨rfl,rfl,rfl,rfl,trivial⟩ ?_
 intro _ hI K4_ hL1
 refine cq [(13,_),(3,_),(11,_),(12,_)] ?_
 refine T.seq fun K5 hK5=>T.region (rp (Pu.bin rfl rfl rfl) (RS.nil (hK5 _ _ ?_)))
 refine T.seq fun K6 hK6=>?_
 refine T.condP rfl (fun hc14=>?_) (fun hc14=>?_)
 ·rw [hu] at hc14
  exact absurd hc14 (by decide) -- end
 ·refine T.exitTo (by with_reducible (repeat (first | exact ExTo.here | exact ExTo.hereN | exact ExTo.deep (by repeat (first | exact NmTo.seq | apply NmTo.blk)) | apply ExTo.seq | refine ExTo.past (by decide) ?_))) (hK3 _ _ (cq [(3,_)] ?_))
  refine T.seq fun K7 hK7=>T.region (rM rfl (rA rfl (RS.nil (hK7 _ _ ?_))))
  refine T.retTo (by with_reducible ((repeat (first | apply RetTo.seq | apply RetTo.blk)); exact RetTo.refl _)) (Cont.ret1 rfl rfl fun w' s=>?_)
  exact ⟨(b9,g7),rfl,s.pick [1] (by decide) rfl⟩
theorem move_Go_quick (W:Wld) (w:World) {v0 v1 v2:Value} (h0:R (hpOf w) W.g.tiles [v0]) (h1:R (hpOf w) W.bs [v1]) (h2:R (hpOf w) W.us [v2]) (hu:W.us = []) (gf:Nat):Calls Tryz.prog 41 #[.agg #[.int .i64 W.tick,.int .i64 W.players,.int .i64 W.nextid,.int .i64 W.g.w,.int .i64 W.g.h,v0,v1,v2],.pointer (some ⟨gf,0,none⟩)] w fun e w'=>e = .returned (.agg #[.int .i64 W.tick,.int .i64 W.players,.int .i64 W.nextid,.int .i64 W.g.w,.int .i64 W.g.h,v0,v1,v2])∧Ext w w':=by
 obtain ⟨p0,c0,rfl⟩:=R_form h0
 obtain ⟨p1,c1,rfl⟩:=R_form h1
 obtain ⟨p2,c2,rfl⟩:=R_form h2
 refine T.enter (args:=[_,_]) (S:=Sat w []) Tryz.func41 rfl rfl (Sat.start w) ?_
 refine T.seq fun K1 hK1=>T.region (RS.solid (Sd.box (cs:=[_,_,_,_,_,_,_,_]) rfl rfl) rfl rfl fun b2=>RS.solid (Sd.alloc zr52 rfl) rfl rfl fun b4=>RS.nil (hK1 _ _ ?_))
 refine T.seq fun K2 hK2=>T.region (rq (Qt.ldBA (us:=[_,_,_,_,_,_,_,_]) 0 ty52 rfl rfl rfl rfl) (RS.solid (Sd.callN ent71 rfl (fun w1 s=>army_Open_quick W w1 (Enc.mono s.ext.hp h0) (Enc.mono s.ext.hp h1) (Enc.mono s.ext.hp h2) hu)) rfl rfl fun z9=>rM rfl (rp (Pu.mkIface ulF rfl) (rp (Pu.build (cells:=[_,_]) st185 rfl rfl) (RS.solid (Sd.box (cs:=[_,_]) rfl rfl) rfl rfl fun b13=>rA rfl (RS.nil (hK2 _ _ (cq [(2,_),(4,_),(5,_)] ?_))))))))
 refine T.seq fun K3 hK3=>T.seq fun K4 hK4=>T.region (rp (Pu.fieldAddr fd52_5 rfl) (rq (Qt.ldB 0 ty50 rfl rfl rfl) (rp (Pu.lenSl sl50 rfl) (rM rfl (RS.nil (hK4 _ _ (cq [(4,_),(5,_),(16,_),(17,_)] ?_)))))))
 refine T.block ?_
 refine T.loopC (σ:=Unit) [(4,_),(5,_),(16,_)] (fun _=>[(17,.int .i64 0)]) (fun _=>True) (fun _=>0) () (trivial) ⟨rfl,rfl,rfl,trivial⟩ ⟨rfl,rfl,rfl,rfl,trivial⟩ ?_
 intro _ hI K4_ hL1
 refine cq [(17,_),(4,_),(5,_),(16,_)] ?_
 refine T.seq fun K5 hK5=>T.region (rp (Pu.bin rfl rfl rfl) (RS.nil (hK5 _ _ ?_)))
 refine T.seq fun K6 hK6=>?_
 refine T.condP rfl (fun hc18=>?_) (fun hc18=>?_)
 ·rw [hu] at hc18
  exact absurd hc18 (by decide) -- end
 ·refine T.exitTo (by with_reducible (repeat (first | exact ExTo.here | exact ExTo.hereN | exact ExTo.deep (by repeat (first | exact NmTo.seq | apply NmTo.blk)) | apply ExTo.seq | refine ExTo.past (by decide) ?_))) (hK3 _ _ (cq [(4,_),(5,_)] ?_))
  refine T.seq fun K7 hK7=>T.region (rM rfl (rp (Pu.nilCheck rfl) (rp (Pu.fieldAddr fd185_0 rfl) (rq (Qt.ldB 3 ty150 rfl rfl rfl) (rp (Pu.nilCheck rfl) (rp (Pu.fieldAddr fd164_0 rfl) (rq (Qt.ldBA (us:=[_,_,_,_,_,_,_,_]) 2 ty52 rfl rfl rfl rfl) (RS.solid (Sd.stB (cs':=[_,_,_,_,_,_,_,_]) 1 ty52 rfl rfl rfl rfl rfl rfl rfl rfl) rfl rfl fun _=>RS.nil (hK7 _ _ (cq [(4,_)] ?_))))))))))
  refine T.retTo (by with_reducible ((repeat (first | apply RetTo.seq | apply RetTo.blk)); exact RetTo.refl _)) (Cont.retC 1 rfl ty52 rfl rfl rfl fun w' s=>?_)
  exact ⟨rfl,s.ext⟩
theorem army_riders_walk (a0_w:Wld) (w:World) {v0 v1 v2:Value} (h0:R (hpOf w) a0_w.g.tiles [v0]) (h1:R (hpOf w) a0_w.bs [v1]) (h2:R (hpOf w) a0_w.us [v2]) {r:Bool} (H:army_riders a0_w = some r):Calls Tryz.prog 73 #[.agg #[.int .i64 a0_w.tick,.int .i64 a0_w.players,.int .i64 a0_w.nextid,.int .i64 a0_w.g.w,.int .i64 a0_w.g.h,v0,v1,v2]] w fun e w'=>e = .returned (.bool r)∧Ext w w':=by
 have hm0:=R_max h0
 obtain ⟨p0,c0,rfl⟩:=R_form h0
 have hm1:=R_max h1
 obtain ⟨p1,c1,rfl⟩:=R_form h1
 have hm2:=R_max h2
 obtain ⟨p2,c2,rfl⟩:=R_form h2
 unfold army_riders at H
 refine T.enter (args:=[_]) (S:=Sat w []) Tryz.func73 rfl rfl (Sat.start w) ?_
 refine T.seq fun K1 hK1=>T.region (RS.solid (Sd.box (cs:=[_,_,_,_,_,_,_,_]) rfl rfl) rfl rfl fun b1=>rA rfl (RS.nil (hK1 _ _ ?_)))
 refine T.seq fun K2 hK2=>T.region (RS.solid (Sd.makeMap) rfl rfl fun b2=>rA rfl (RS.nil (hK2 _ _ (cq [(1,_),(3,_)] ?_))))
 refine T.seq fun K3 hK3=>T.seq fun K4 hK4=>T.region (rp (Pu.fieldAddr fd52_5 rfl) (rq (Qt.ldB 0 ty50 rfl rfl rfl) (rp (Pu.lenSl sl50 rfl) (rM rfl (RS.nil (hK4 _ _ ?_))))))
 refine T.joinE (σ:=Unit) (γ:=Unit) H Ex.go [] trivial (fun _ _=>[]) (fun _ _=>Sat w [blk b1 [.int .i64 a0_w.tick,.int .i64 a0_w.players,.int .i64 a0_w.nextid,.int .i64 a0_w.g.w,.int .i64 a0_w.g.h,.slice p0 a0_w.g.tiles.length c0,.slice p1 a0_w.bs.length c1,.slice p2 a0_w.us.length c2] 52,mapCh b2 mNil]) ?_ ?_
 ·rintro ⟨⟩ ⟨⟩ H
  try dsimp only [Ex.then] at H
  refine Cont.conseq (fr':=[]) ?_ trivial (fun _ s=>s)
  refine id (hK3 _ _ ?_)
  refine T.seq fun K5 hK5=>T.region (rA rfl (RS.nil (hK5 _ _ ?_)))
  obtain rfl:=sj H
  refine T.rt (Cont.ret1 rfl rfl fun w' s=>?_)
  exact ⟨rfl,s.ext⟩
 ·intro z3 hz3 HX3 hJ3
  refine T.block ?_
  refine T.loopA (γ:=Unit) hz3 [(1,_),(3,_),(11,_),(12,_)] (fun v4 _=>[(13,.int .i64 v4)]) (fun v4 _=>Sat w [blk b1 [.int .i64 a0_w.tick,.int .i64 a0_w.players,.int .i64 a0_w.nextid,.int .i64 a0_w.g.w,.int .i64 a0_w.g.h,.slice p0 a0_w.g.tiles.length c0,.slice p1 a0_w.bs.length c1,.slice p2 a0_w.us.length c2] 52,mapCh b2 mNil]) () ⟨rfl,rfl,rfl,rfl,trivial⟩ ⟨rfl,trivial⟩ (fun w s=>s) ?_
  rintro v4 ⟨⟩ y5 H hd3 KL3 hL3
  try dsimp only [Ex.then] at H
  refine cq [(13,_),(1,_),(3,_),(11,_),(12,_)] ?_
  refine T.seq fun K6 hK6=>T.region (rp (Pu.bin rfl rfl rfl) (RS.nil (hK6 _ _ ?_)))
  refine T.seq fun K7 hK7=>?_
  refine T.condP rfl (fun hc6=>?_) (fun hc6=>?_)
  ·have H:=ifT hc6 H
   refine T.skip (hK7 _ _ ?_)
   refine T.seq fun K8 hK8=>T.block (T.seq fun K9 hK9=>?_)
   exact nomatch H
  ·have H:=ifF hc6 H
   obtain rfl:=hd3 _ H
   refine T.xt (hJ3 _ _ () () HX3 trivial trivial (fun w s=>s))
theorem army_May_walk (a0_w:Wld) (w:World) {v0 v1 v2:Value} (h0:R (hpOf w) a0_w.g.tiles [v0]) (h1:R (hpOf w) a0_w.bs [v1]) (h2:R (hpOf w) a0_w.us [v2]) {r:Bool} (H:army_May a0_w = some r):Calls Tryz.prog 37 #[.agg #[.int .i64 a0_w.tick,.int .i64 a0_w.players,.int .i64 a0_w.nextid,.int .i64 a0_w.g.w,.int .i64 a0_w.g.h,v0,v1,v2]] w fun e w'=>e = .returned (.bool r)∧Ext w w':=by
 have hm0:=R_max h0
 obtain ⟨p0,c0,rfl⟩:=R_form h0
 have hm1:=R_max h1
 obtain ⟨p1,c1,rfl⟩:=R_form h1
 have hm2:=R_max h2
 obtain ⟨p2,c2,rfl⟩:=R_form h2
 unfold army_May at H
 refine T.enter (args:=[_]) (S:=Sat w []) Tryz.func37 rfl rfl (Sat.start w) ?_
 refine T.seq fun K1 hK1=>T.region (RS.solid (Sd.box (cs:=[_,_,_,_,_,_,_,_]) rfl rfl) rfl rfl fun b1=>rA rfl (RS.nil (hK1 _ _ ?_)))
 refine T.seq fun K2 hK2=>T.seq fun K3 hK3=>T.region (rq (Qt.ldBA (us:=[_,_,_,_,_,_,_,_]) 0 ty52 rfl rfl rfl rfl) ?_)
 obtain ⟨x2,hx2,H⟩:=bindE H
 refine rq (Qt.call (vs:=[.agg #[.int .i64 a0_w.tick,.int .i64 a0_w.players,.int .i64 a0_w.nextid,.int .i64 a0_w.g.w,.int .i64 a0_w.g.h,.slice p0 a0_w.g.tiles.length c0,.slice p1 a0_w.bs.length c1,.slice p2 a0_w.us.length c2]]) ent69 rfl fun w s=>army_form0_walk a0_w w ((Rd.base h0) w s) ((Rd.base h1) w s) ((Rd.base h2) w s) hx2) (rp (Pu.not rfl) (RS.nil (hK3 _ _ ?_)))
 refine T.cond rfl (fun hc3=>?_) (fun hc3=>?_)
 ·have H:=ifT hc3 H
  refine cq [] ?_
  refine T.seq fun K4 hK4=>T.region (rA rfl (RS.nil (hK4 _ _ ?_)))
  obtain rfl:=sj H
  refine T.rt (Cont.ret1 rfl rfl fun w' s=>?_)
  exact ⟨rfl,s.ext⟩
 ·have H:=ifB hc3 H
  refine T.skip (hK2 _ _ (cq [(1,_)] ?_))
  refine T.seq fun K5 hK5=>T.region (RS.solid (Sd.makeMap) rfl rfl fun b4=>rA rfl (RS.nil (hK5 _ _ ?_)))
  refine T.seq fun K6 hK6=>T.seq fun K7 hK7=>T.region (rp (Pu.fieldAddr fd52_4 rfl) (rq (Qt.ldB 0 ty49 rfl rfl rfl) (rp (Pu.lenSl sl49 rfl) (rM rfl (RS.nil (hK7 _ _ ?_))))))
  refine T.joinE (σ:=Unit) (γ:=Unit) H (fun s=>s) [(1,_),(3,_)] ⟨rfl,rfl,trivial⟩ (fun _ _=>[]) (fun _ _=>Sat w [blk b1 [.int .i64 a0_w.tick,.int .i64 a0_w.players,.int .i64 a0_w.nextid,.int .i64 a0_w.g.w,.int .i64 a0_w.g.h,.slice p0 a0_w.g.tiles.length c0,.slice p1 a0_w.bs.length c1,.slice p2 a0_w.us.length c2] 52,mapCh b4 mNil]) ?_ ?_
  ·rintro ⟨⟩ ⟨⟩ H
   try dsimp only [Ex.then] at H
   refine Cont.conseq (fr':=[(1,_),(3,_)]) ?_ ⟨rfl,rfl,trivial⟩ (fun _ s=>s)
   refine id (hK6 _ _ ?_)
   refine T.seq fun K8 hK8=>T.seq fun K9 hK9=>T.region (rp (Pu.fieldAddr fd52_5 rfl) (rq (Qt.ldB 0 ty50 rfl rfl rfl) (rp (Pu.lenSl sl50 rfl) (rM rfl (RS.nil (hK9 _ _ ?_))))))
   refine T.joinE (σ:=Unit) (γ:=Unit) H Ex.go [(1,_)] ⟨rfl,trivial⟩ (fun _ _=>[]) (fun _ _=>Sat w [blk b1 [.int .i64 a0_w.tick,.int .i64 a0_w.players,.int .i64 a0_w.nextid,.int .i64 a0_w.g.w,.int .i64 a0_w.g.h,.slice p0 a0_w.g.tiles.length c0,.slice p1 a0_w.bs.length c1,.slice p2 a0_w.us.length c2] 52,mapCh b4 mNil]) ?_ ?_
   ·rintro ⟨⟩ ⟨⟩ H
    try dsimp only [Ex.then] at H
    refine Cont.conseq (fr':=[(1,_)]) ?_ ⟨rfl,trivial⟩ (fun _ s=>s)
    refine id (hK8 _ _ ?_)
    refine T.seq fun K10 hK10=>T.region (rq (Qt.ldBA (us:=[_,_,_,_,_,_,_,_]) 0 ty52 rfl rfl rfl rfl) ?_)
    obtain ⟨g7,H⟩:=gdE H
    refine RS.solid (Sd.call (ι:=Nat) (val:=fun g=>.pointer (some ⟨g,0,none⟩)) (S':=fun _=>Sat w [blk b1 [.int .i64 a0_w.tick,.int .i64 a0_w.players,.int .i64 a0_w.nextid,.int .i64 a0_w.g.w,.int .i64 a0_w.g.h,.slice p0 a0_w.g.tiles.length c0,.slice p1 a0_w.bs.length c1,.slice p2 a0_w.us.length c2] 52,mapCh b4 mNil]) ent71 rfl fun w1 s=>(army_Open_quick a0_w w1 (Enc.mono s.ext.hp h0) (Enc.mono s.ext.hp h1) (Enc.mono s.ext.hp h2) (List.eq_nil_of_length_eq_zero g7)).mono fun e w2 h=>let ⟨z,h1,h2⟩:=h; ⟨z.1,h1,(s.grow h2.ext:Sat _ _ w2)⟩) rfl rfl fun g8=>rA rfl (RS.nil (hK10 _ _ ?_))
    refine T.seq fun K11 hK11=>T.seq fun K12 hK12=>T.region (rp (Pu.fieldAddr fd52_5 rfl) (rq (Qt.ldB 0 ty50 rfl rfl rfl) (rp (Pu.lenSl sl50 rfl) (rM rfl (RS.nil (hK12 _ _ (cq [(1,_),(8,_),(64,_),(65,_),(66,_)] ?_)))))))
    refine T.joinE (σ:=Unit) (γ:=Unit) H Ex.go [(1,_)] ⟨rfl,trivial⟩ (fun _ _=>[]) (fun _ _=>Sat w [blk b1 [.int .i64 a0_w.tick,.int .i64 a0_w.players,.int .i64 a0_w.nextid,.int .i64 a0_w.g.w,.int .i64 a0_w.g.h,.slice p0 a0_w.g.tiles.length c0,.slice p1 a0_w.bs.length c1,.slice p2 a0_w.us.length c2] 52,mapCh b4 mNil]) ?_ ?_
    ·rintro ⟨⟩ ⟨⟩ H
     try dsimp only [Ex.then] at H
     refine Cont.conseq (fr':=[(1,_)]) ?_ ⟨rfl,trivial⟩ (fun _ s=>s)
     refine id (hK11 _ _ ?_)
     refine T.seq fun K13 hK13=>T.region (rq (Qt.ldBA (us:=[_,_,_,_,_,_,_,_]) 0 ty52 rfl rfl rfl rfl) ?_)
     obtain ⟨x10,hx10,H⟩:=bindE H
     refine rq (Qt.call (vs:=[.agg #[.int .i64 a0_w.tick,.int .i64 a0_w.players,.int .i64 a0_w.nextid,.int .i64 a0_w.g.w,.int .i64 a0_w.g.h,.slice p0 a0_w.g.tiles.length c0,.slice p1 a0_w.bs.length c1,.slice p2 a0_w.us.length c2]]) ent73 rfl fun w s=>army_riders_walk a0_w w ((Rd.base h0) w s) ((Rd.base h1) w s) ((Rd.base h2) w s) hx10) (rA rfl (RS.nil (hK13 _ _ (cq [(2,_)] ?_))))
     obtain rfl:=sj H
     refine T.rt (Cont.ret1 rfl rfl fun w' s=>?_)
     exact ⟨rfl,s.ext⟩
    ·intro z9 hz9 HX9 hJ9
     refine T.block ?_
     refine T.loopA (γ:=Unit) hz9 [(1,_),(8,_),(64,_),(65,_)] (fun v11 _=>[(66,.int .i64 v11)]) (fun v11 _=>Sat w [blk b1 [.int .i64 a0_w.tick,.int .i64 a0_w.players,.int .i64 a0_w.nextid,.int .i64 a0_w.g.w,.int .i64 a0_w.g.h,.slice p0 a0_w.g.tiles.length c0,.slice p1 a0_w.bs.length c1,.slice p2 a0_w.us.length c2] 52,mapCh b4 mNil]) () ⟨rfl,rfl,rfl,rfl,trivial⟩ ⟨rfl,trivial⟩ (fun w s=>s) ?_
     rintro v11 ⟨⟩ y12 H hd9 KL9 hL9
     try dsimp only [Ex.then] at H
     refine cq [(66,_),(1,_),(8,_),(64,_),(65,_)] ?_
     refine T.seq fun K14 hK14=>T.region (rp (Pu.bin rfl rfl rfl) (RS.nil (hK14 _ _ ?_)))
     refine T.seq fun K15 hK15=>?_
     refine T.condP rfl (fun hc13=>?_) (fun hc13=>?_)
     ·have H:=ifT hc13 H
      refine T.skip (hK15 _ _ ?_)
      refine T.seq fun K16 hK16=>T.block (T.seq fun K17 hK17=>?_)
      exact nomatch H
     ·have H:=ifF hc13 H
      obtain rfl:=hd9 _ H
      refine T.xt (hJ9 _ _ () () HX9 ⟨rfl,trivial⟩ trivial (fun w s=>s))
   ·intro z6 hz6 HX6 hJ6
    refine T.block ?_
    refine T.loopA (γ:=Unit) hz6 [(1,_),(3,_),(27,_),(28,_)] (fun v14 _=>[(29,.int .i64 v14)]) (fun v14 _=>Sat w [blk b1 [.int .i64 a0_w.tick,.int .i64 a0_w.players,.int .i64 a0_w.nextid,.int .i64 a0_w.g.w,.int .i64 a0_w.g.h,.slice p0 a0_w.g.tiles.length c0,.slice p1 a0_w.bs.length c1,.slice p2 a0_w.us.length c2] 52,mapCh b4 mNil]) () ⟨rfl,rfl,rfl,rfl,trivial⟩ ⟨rfl,trivial⟩ (fun w s=>s) ?_
    rintro v14 ⟨⟩ y15 H hd6 KL6 hL6
    try dsimp only [Ex.then] at H
    refine cq [(29,_),(1,_),(3,_),(27,_),(28,_)] ?_
    refine T.seq fun K18 hK18=>T.region (rp (Pu.bin rfl rfl rfl) (RS.nil (hK18 _ _ ?_)))
    refine T.seq fun K19 hK19=>?_
    refine T.condP rfl (fun hc16=>?_) (fun hc16=>?_)
    ·have H:=ifT hc16 H
     refine T.skip (hK19 _ _ ?_)
     refine T.seq fun K20 hK20=>T.block (T.seq fun K21 hK21=>?_)
     exact nomatch H
    ·have H:=ifF hc16 H
     obtain rfl:=hd6 _ H
     refine T.xt (hJ6 _ _ () () HX6 ⟨rfl,trivial⟩ trivial (fun w s=>s))
  ·intro z5 hz5 HX5 hJ5
   refine T.block ?_
   refine T.loopA (γ:=Unit) hz5 [(1,_),(3,_),(16,_),(17,_)] (fun v17 _=>[(18,.int .i64 v17)]) (fun v17 _=>Sat w [blk b1 [.int .i64 a0_w.tick,.int .i64 a0_w.players,.int .i64 a0_w.nextid,.int .i64 a0_w.g.w,.int .i64 a0_w.g.h,.slice p0 a0_w.g.tiles.length c0,.slice p1 a0_w.bs.length c1,.slice p2 a0_w.us.length c2] 52,mapCh b4 mNil]) () ⟨rfl,rfl,rfl,rfl,trivial⟩ ⟨rfl,trivial⟩ (fun w s=>s) ?_
   rintro v17 ⟨⟩ y18 H hd5 KL5 hL5
   try dsimp only [Ex.then] at H
   refine cq [(18,_),(1,_),(3,_),(16,_),(17,_)] ?_
   refine T.seq fun K22 hK22=>T.region (rp (Pu.bin rfl rfl rfl) (RS.nil (hK22 _ _ ?_)))
   refine T.seq fun K23 hK23=>?_
   refine T.condP rfl (fun hc19=>?_) (fun hc19=>?_)
   ·have H:=ifT hc19 H
    refine T.skip (hK23 _ _ ?_)
    refine T.seq fun K24 hK24=>T.block (T.seq fun K25 hK25=>?_)
    exact nomatch H
   ·have H:=ifF hc19 H
    obtain rfl:=hd5 _ H
    refine T.xt (hJ5 _ _ () () HX5 ⟨rfl,rfl,trivial⟩ trivial (fun w s=>s))
theorem eng_Open_walk (a0_w:Wld) (a1_room:Int) (w:World) {v0 v1 v2:Value} (h0:R (hpOf w) a0_w.g.tiles [v0]) (h1:R (hpOf w) a0_w.bs [v1]) (h2:R (hpOf w) a0_w.us [v2]) {r:Option Wld × Int} (H:eng_Open a0_w a1_room = some r):Calls Tryz.prog 17 #[.agg #[.int .i64 a0_w.tick,.int .i64 a0_w.players,.int .i64 a0_w.nextid,.int .i64 a0_w.g.w,.int .i64 a0_w.g.h,v0,v1,v2],.int .i64 a1_room] w fun e w'=>∃ g1:Nat,e = .returned (.tuple #[.pointer (optA g1 r.1),.int .i64 r.2])∧Sat w [optCh Eng_ch g1 r.1] w':=by
 have hm0:=R_max h0
 obtain ⟨p0,c0,rfl⟩:=R_form h0
 have hm1:=R_max h1
 obtain ⟨p1,c1,rfl⟩:=R_form h1
 have hm2:=R_max h2
 obtain ⟨p2,c2,rfl⟩:=R_form h2
 unfold eng_Open at H
 refine T.enter (args:=[_,_]) (S:=Sat w []) Tryz.func17 rfl rfl (Sat.start w) ?_
 refine T.seq fun K1 hK1=>T.region (RS.solid (Sd.box (cs:=[_,_,_,_,_,_,_,_]) rfl rfl) rfl rfl fun b1=>rA rfl (rA rfl (RS.nil (hK1 _ _ (cq [(1,_),(2,_)] ?_)))))
 refine T.seq fun K2 hK2=>T.region (rM rfl ?_)
 obtain ⟨x2,hx2,H⟩:=bindE H
 obtain ⟨o3,o4⟩:=x2
 dsimp only at H
 refine RS.solid (Sd.callN (vs:=[.int .i64 a1_room]) ent36 rfl (fun w s=>fields_New_walk a1_room w  hx2)) rfl rfl fun g5=>rM rfl (rp (Pu.extract rfl rfl) (rp (Pu.extract rfl rfl) (rA rfl (rA rfl (RS.nil (hK2 _ _ (cq [(2,_),(6,_),(7,_)] ?_)))))))
 refine T.seq fun K3 hK3=>T.seq fun K4 hK4=>T.region (rM rfl (rp (Pu.bin rfl rfl rfl) (rM rfl ?_)))
 refine RS.joinB H 4 19 (fun b8=>.bool b8) [(2,_),(6,_)] ⟨rfl,rfl,trivial⟩ ?_ ?_
 ·intro b8 H
  refine RS.nil (hK4 _ _ ?_)
  refine T.cond rfl (fun hc9=>?_) (fun hc9=>?_)
  ·have H:=ifT hc9 H
   refine cq [] ?_
   refine T.seq fun K5 hK5=>T.region (rA rfl (rA rfl (RS.nil (hK5 _ _ ?_))))
   obtain rfl:=sj H
   refine T.rt (Cont.ret2 rfl rfl rfl fun w' s=>?_)
   exact ⟨0,rfl,(s.deadRow).pick [2] (by decide) rfl⟩
  ·have H:=ifB hc9 H
   refine T.skip (hK3 _ _ ?_)
   refine T.seq fun K6 hK6=>T.region (rq (Qt.ldBA (us:=[_,_,_,_,_,_,_,_]) 0 ty52 rfl rfl rfl rfl) ?_)
   obtain ⟨x10,hx10,H⟩:=bindE H
   refine RS.solid (Sd.callN (vs:=[.agg #[.int .i64 a0_w.tick,.int .i64 a0_w.players,.int .i64 a0_w.nextid,.int .i64 a0_w.g.w,.int .i64 a0_w.g.h,.slice p0 a0_w.g.tiles.length c0,.slice p1 a0_w.bs.length c1,.slice p2 a0_w.us.length c2]]) ent38 rfl (fun w s=>army_Own_walk a0_w w ((Rd.base h0) w s) ((Rd.base h1) w s) ((Rd.base h2) w s) hx10)) rfl rfl fun ⟨q11,q12,q13⟩=>?_
   refine rM rfl ?_
   obtain ⟨z14,hz14,HZz14⟩:=bindE H
   subst hz14
   have H:=HZz14
   refine RS.weakS (fun w s=>s.optSome (C:=Fld_ch) 1 rfl) ?_
   refine rp (Pu.build (cells:=[_,_,_,_,_,_,_,_,_]) st105 rfl rfl) (RS.solid (Sd.box (cs:=[_,_,_,_,_,_,_,_,_]) rfl rfl) rfl rfl fun b15=>rA rfl (rA rfl (RS.nil (hK6 _ _ (cq [(4,_),(5,_)] ?_)))))
   refine T.weakS (S':=Sat w [blk b1 [.int .i64 a0_w.tick,.int .i64 a0_w.players,.int .i64 a0_w.nextid,.int .i64 a0_w.g.w,.int .i64 a0_w.g.h,.slice p0 a0_w.g.tiles.length c0,.slice p1 a0_w.bs.length c1,.slice p2 a0_w.us.length c2] 52,Eng_ch b15 x10]) (fun w s=>(Eng_shut (R:=[blk b1 [.int .i64 a0_w.tick,.int .i64 a0_w.players,.int .i64 a0_w.nextid,.int .i64 a0_w.g.w,.int .i64 a0_w.g.h,.slice p0 a0_w.g.tiles.length c0,.slice p1 a0_w.bs.length c1,.slice p2 a0_w.us.length c2] 52]) (x:=x10) ⟨q11,q12,q13,g5,z14⟩ (s.pick [0,5,2,3,4,1] (by decide) rfl)).pick [1,0] (by decide) rfl) ?_
   obtain rfl:=sj H
   refine T.rt (Cont.ret2 rfl rfl rfl fun w' s=>?_)
   exact ⟨b15,rfl,s.pick [1] (by decide) rfl⟩
 ·intro z16 H hJ7
  refine RS.splitP 15 rfl (fun hc6=>?_) (fun hc6=>?_)
  ·have H:=ifT hc6 H
   refine ro (ro (ro (rp (Pu.pickT rfl rfl) ?_)))
   obtain rfl:=sj H
   exact hJ7 _ _ ⟨rfl,rfl,rfl,trivial⟩ (fun w s=>s)
  ·have H:=ifF hc6 H
   refine rq (Qt.ldBA (us:=[_,_,_,_,_,_,_,_]) 0 ty52 rfl rfl rfl rfl) ?_
   obtain ⟨x17,hx17,H⟩:=bindE H
   refine rq (Qt.call (vs:=[.agg #[.int .i64 a0_w.tick,.int .i64 a0_w.players,.int .i64 a0_w.nextid,.int .i64 a0_w.g.w,.int .i64 a0_w.g.h,.slice p0 a0_w.g.tiles.length c0,.slice p1 a0_w.bs.length c1,.slice p2 a0_w.us.length c2]]) ent37 rfl fun w s=>army_May_walk a0_w w ((Rd.base h0) w s) ((Rd.base h1) w s) ((Rd.base h2) w s) hx17) (rp (Pu.not rfl) (rp (Pu.pickF rfl rfl) ?_))
   obtain rfl:=sj H
   exact hJ7 _ _ ⟨rfl,rfl,rfl,trivial⟩ (fun w s=>s)
theorem eng_World_walk {w0:World} {F:Ch} (g0:Nat) (a0_x:Wld) {r:Wld} (H:eng_World a0_x = some r) (w:World) (s:Sat w0 [Eng_ch g0 a0_x,F] w):Calls Tryz.prog 19 #[.pointer (some ⟨g0,0,none⟩)] w fun e w'=>∃ g:(Option Nat × Nat) × (Option Nat × Nat) × (Option Nat × Nat),e = .returned (.agg #[.int .i64 r.tick,.int .i64 r.players,.int .i64 r.nextid,.int .i64 r.g.w,.int .i64 r.g.h,rowV g.1 r.g.tiles.length,rowV g.2.1 r.bs.length,rowV g.2.2 r.us.length])∧Sat w0 ([Eng_ch g0 a0_x,F] ++ [row nilH 5 (rowV g.1 r.g.tiles.length) r.g.tiles,row nilH 135 (rowV g.2.1 r.bs.length) r.bs,row nilH 54 (rowV g.2.2 r.us.length) r.us]) w':=by
 unfold eng_World at H
 refine T.enter (args:=[_]) (S:=Sat w0 [Eng_ch g0 a0_x,F]) Tryz.func19 rfl rfl (s) ?_
 refine T.seq fun K1 hK1=>T.region (RS.solid (Sd.alloc zr52 rfl) rfl rfl fun b1=>RS.nil (hK1 _ _ ?_))
 refine T.seq fun K2 hK2=>T.region (rM rfl (rp (Pu.nilCheck rfl) ?_))
 refine RS.ex (S':=fun q:(Option Nat × Nat) × (Option Nat × Nat) × (Option Nat × Nat) × Nat × Fld=>Sat w0 [blk g0 [.int .i64 a0_x.tick,.int .i64 a0_x.players,.int .i64 a0_x.nextid,.int .i64 a0_x.g.w,.int .i64 a0_x.g.h,rowV q.1 a0_x.g.tiles.length,rowV q.2.1 a0_x.bs.length,rowV q.2.2.1 a0_x.us.length,.pointer (some ⟨q.2.2.2.1,0,none⟩)] 105,F,blk b1 [.int .i64 0,.int .i64 0,.int .i64 0,.int .i64 0,.int .i64 0,.slice none 0 0,.slice none 0 0,.slice none 0 0] 52,row nilH 5 (rowV q.1 a0_x.g.tiles.length) a0_x.g.tiles,row nilH 135 (rowV q.2.1 a0_x.bs.length) a0_x.bs,row nilH 54 (rowV q.2.2.1 a0_x.us.length) a0_x.us,Fld_ch q.2.2.2.1 q.2.2.2.2]) (fun w s=>Eng_open 0 rfl s) ?_
 rintro ⟨qt2,qb3,qu4,gf5,fs6⟩
 show RS _ _ _ _ _ _ (Sat w0 [blk g0 [.int .i64 a0_x.tick,.int .i64 a0_x.players,.int .i64 a0_x.nextid,.int .i64 a0_x.g.w,.int .i64 a0_x.g.h,rowV qt2 a0_x.g.tiles.length,rowV qb3 a0_x.bs.length,rowV qu4 a0_x.us.length,.pointer (some ⟨gf5,0,none⟩)] 105,F,blk b1 [.int .i64 0,.int .i64 0,.int .i64 0,.int .i64 0,.int .i64 0,.slice none 0 0,.slice none 0 0,.slice none 0 0] 52,row nilH 5 (rowV qt2 a0_x.g.tiles.length) a0_x.g.tiles,row nilH 135 (rowV qb3 a0_x.bs.length) a0_x.bs,row nilH 54 (rowV qu4 a0_x.us.length) a0_x.us,Fld_ch gf5 fs6])
 refine rp (Pu.fieldAddr fd105_0 rfl) (rq (Qt.ldBA (us:=[_,_,_,_,_,_,_,_]) 0 ty52 rfl rfl rfl rfl) ?_)
 obtain ⟨x7,hx7,H⟩:=bindE H
 refine RS.solid (Sd.callN (vs:=[.agg #[.int .i64 a0_x.tick,.int .i64 a0_x.players,.int .i64 a0_x.nextid,.int .i64 a0_x.g.w,.int .i64 a0_x.g.h,rowV qt2 a0_x.g.tiles.length,rowV qb3 a0_x.bs.length,rowV qu4 a0_x.us.length]]) ent38 rfl (fun w s=>army_Own_walk a0_x w ((Rd.ofRowN 3 rfl) w s) ((Rd.ofRowN 4 rfl) w s) ((Rd.ofRowN 5 rfl) w s) hx7)) rfl rfl fun ⟨q8,q9,q10⟩=>?_
 refine RS.solid (Sd.stB (cs':=[_,_,_,_,_,_,_,_]) 2 ty52 rfl rfl rfl rfl rfl rfl rfl rfl) rfl rfl fun _=>RS.nil (hK2 _ _ (cq [(2,_)] ?_))
 refine T.weakS (S':=Sat w0 [Eng_ch g0 a0_x,F,blk b1 [.int .i64 x7.tick,.int .i64 x7.players,.int .i64 x7.nextid,.int .i64 x7.g.w,.int .i64 x7.g.h,rowV q8 x7.g.tiles.length,rowV q9 x7.bs.length,rowV q10 x7.us.length] 52,row nilH 5 (rowV q8 x7.g.tiles.length) x7.g.tiles,row nilH 135 (rowV q9 x7.bs.length) x7.bs,row nilH 54 (rowV q10 x7.us.length) x7.us]) (fun w s=>Eng_shut (R:=[F,blk b1 [.int .i64 x7.tick,.int .i64 x7.players,.int .i64 x7.nextid,.int .i64 x7.g.w,.int .i64 x7.g.h,rowV q8 x7.g.tiles.length,rowV q9 x7.bs.length,rowV q10 x7.us.length] 52,row nilH 5 (rowV q8 x7.g.tiles.length) x7.g.tiles,row nilH 135 (rowV q9 x7.bs.length) x7.bs,row nilH 54 (rowV q10 x7.us.length) x7.us]) (x:=a0_x) ⟨qt2,qb3,qu4,gf5,fs6⟩ (s.pick [1,2,7,8,9,0,3,4,5,6] (by decide) rfl)) ?_
 obtain rfl:=sj H
 refine T.rt (Cont.retC 2 rfl ty52 rfl rfl rfl fun w' s=>?_)
 exact ⟨⟨q8,q9,q10⟩,rfl,s.pick [0,1,3,4,5] (by decide) rfl⟩
theorem eng_Step_walk {w0:World} {F:Ch} (g0:Nat) (a0_x:Wld) (a1_l:List Cmd) {v0:Value} (h0:Rd (Sat w0 [F]) a1_l [v0]) {r:List Int × Int × Wld} (H:eng_Step a0_x a1_l = some r) (w:World) (s:Sat w0 [Eng_ch g0 a0_x,F] w):Calls Tryz.prog 18 #[.pointer (some ⟨g0,0,none⟩),v0] w fun e w'=>∃ q1:(Option Nat × Nat),e = .returned (.tuple #[rowV q1 r.1.length,.int .i64 r.2.1])∧Sat w0 ([Eng_ch g0 r.2.2,F] ++ [row nilH 45 (rowV q1 r.1.length) r.1]) w':=by
 have hm0:=R_max (h0 w (s.pick [1] (by decide) rfl))
 obtain ⟨p0,c0,rfl⟩:=R_form (h0 w (s.pick [1] (by decide) rfl))
 unfold eng_Step at H
 refine T.enter (args:=[_,_]) (S:=Sat w0 [Eng_ch g0 a0_x,F]) Tryz.func18 rfl rfl (s) ?_
 refine T.seq fun K1 hK1=>T.region (rA rfl (rA rfl (RS.nil (hK1 _ _ ?_))))
 refine T.seq fun K2 hK2=>T.block (T.seq fun K3 hK3=>T.region (rM rfl (rp (Pu.nilCheck rfl) ?_)))
 refine RS.ex (S':=fun q:(Option Nat × Nat) × (Option Nat × Nat) × (Option Nat × Nat) × Nat × Fld=>Sat w0 [blk g0 [.int .i64 a0_x.tick,.int .i64 a0_x.players,.int .i64 a0_x.nextid,.int .i64 a0_x.g.w,.int .i64 a0_x.g.h,rowV q.1 a0_x.g.tiles.length,rowV q.2.1 a0_x.bs.length,rowV q.2.2.1 a0_x.us.length,.pointer (some ⟨q.2.2.2.1,0,none⟩)] 105,F,row nilH 5 (rowV q.1 a0_x.g.tiles.length) a0_x.g.tiles,row nilH 135 (rowV q.2.1 a0_x.bs.length) a0_x.bs,row nilH 54 (rowV q.2.2.1 a0_x.us.length) a0_x.us,Fld_ch q.2.2.2.1 q.2.2.2.2]) (fun w s=>Eng_open 0 rfl s) ?_
 rintro ⟨qt1,qb2,qu3,gf4,fs5⟩
 show RS _ _ _ _ _ _ (Sat w0 [blk g0 [.int .i64 a0_x.tick,.int .i64 a0_x.players,.int .i64 a0_x.nextid,.int .i64 a0_x.g.w,.int .i64 a0_x.g.h,rowV qt1 a0_x.g.tiles.length,rowV qb2 a0_x.bs.length,rowV qu3 a0_x.us.length,.pointer (some ⟨gf4,0,none⟩)] 105,F,row nilH 5 (rowV qt1 a0_x.g.tiles.length) a0_x.g.tiles,row nilH 135 (rowV qb2 a0_x.bs.length) a0_x.bs,row nilH 54 (rowV qu3 a0_x.us.length) a0_x.us,Fld_ch gf4 fs5])
 refine rp (Pu.fieldAddr fd105_0 rfl) (rp (Pu.fieldAddr fd52_0 rfl) (rq (Qt.ldB 0 ty3 rfl rfl rfl) (rp (Pu.bin rfl rfl rfl) (rA rfl (RS.nil (hK3 _ _ ?_))))))
 refine T.condP rfl (fun hc6=>?_) (fun hc6=>?_)
 ·have H:=ifT hc6 H
  refine cq [] ?_
  refine T.seq fun K4 hK4=>T.region (rA rfl (rA rfl (RS.nil (hK4 _ _ ?_))))
  refine T.weakS (S':=Sat w0 [Eng_ch g0 a0_x,F]) (fun w s=>Eng_shut (R:=[F]) (x:=a0_x) ⟨qt1,qb2,qu3,gf4,fs5⟩ (s.pick [1,0,2,3,4,5] (by decide) rfl)) ?_
  obtain rfl:=sj H
  refine T.rt (Cont.ret2 rfl rfl rfl fun w' s=>?_)
  exact ⟨(none,0),rfl,(s.nilRow (α:=Int) 45).pick [0,1,2] (by decide) rfl⟩
 ·have H:=ifF hc6 H
  refine cq [(0,_),(1,_)] ?_
  refine T.seq fun K5 hK5=>T.region (rM rfl (rp (Pu.lenSl sl29 rfl) (rp (Pu.bin rfl rfl rfl) (rA rfl (RS.nil (hK5 _ _ ?_))))))
  refine T.condP rfl (fun hc7=>?_) (fun hc7=>?_)
  ·have H:=ifT hc7 H
   refine cq [] ?_
   refine T.seq fun K6 hK6=>T.region (rA rfl (rA rfl (RS.nil (hK6 _ _ ?_))))
   refine T.weakS (S':=Sat w0 [Eng_ch g0 a0_x,F]) (fun w s=>Eng_shut (R:=[F]) (x:=a0_x) ⟨qt1,qb2,qu3,gf4,fs5⟩ (s.pick [1,0,2,3,4,5] (by decide) rfl)) ?_
   obtain rfl:=sj H
   refine T.rt (Cont.ret2 rfl rfl rfl fun w' s=>?_)
   exact ⟨(none,0),rfl,(s.nilRow (α:=Int) 45).pick [0,1,2] (by decide) rfl⟩
  ·have H:=ifF hc7 H
   refine T.skip (hK2 _ _ (cq [(0,_),(1,_)] ?_))
   refine T.seq fun K7 hK7=>T.region (rA rfl (RS.nil (hK7 _ _ ?_)))
   refine T.seq fun K8 hK8=>T.seq fun K9 hK9=>T.region (rM rfl (rp (Pu.lenSl sl29 rfl) (rM rfl (RS.nil (hK9 _ _ ?_)))))
   refine T.weakS (S':=Sat w0 [Eng_ch g0 a0_x,F]) (fun w s=>Eng_shut (R:=[F]) (x:=a0_x) ⟨qt1,qb2,qu3,gf4,fs5⟩ (s.pick [1,0,2,3,4,5] (by decide) rfl)) ?_
   refine T.joinE (σ:=Unit) (γ:=Unit) H (fun s=>s) [(0,_)] ⟨rfl,trivial⟩ (fun _ _=>[(6,.slice none 0 0)]) (fun _ _=>Sat w0 [Eng_ch g0 a0_x,F]) ?_ ?_
   ·rintro ⟨⟩ ⟨⟩ H
    try dsimp only [Ex.then] at H
    refine Cont.conseq (fr':=[(6,_),(0,_)]) ?_ ⟨rfl,rfl,trivial⟩ (fun _ s=>s)
    refine id (hK8 _ _ ?_)
    refine T.seq fun K10 hK10=>?_
    refine T.ex (S':=fun q:(Option Nat × Nat) × (Option Nat × Nat) × (Option Nat × Nat) × Nat × Fld=>Sat w0 [blk g0 [.int .i64 a0_x.tick,.int .i64 a0_x.players,.int .i64 a0_x.nextid,.int .i64 a0_x.g.w,.int .i64 a0_x.g.h,rowV q.1 a0_x.g.tiles.length,rowV q.2.1 a0_x.bs.length,rowV q.2.2.1 a0_x.us.length,.pointer (some ⟨q.2.2.2.1,0,none⟩)] 105,F,row nilH 5 (rowV q.1 a0_x.g.tiles.length) a0_x.g.tiles,row nilH 135 (rowV q.2.1 a0_x.bs.length) a0_x.bs,row nilH 54 (rowV q.2.2.1 a0_x.us.length) a0_x.us,Fld_ch q.2.2.2.1 q.2.2.2.2]) (fun w s=>Eng_open 0 rfl s) ?_
    rintro ⟨qt9,qb10,qu11,gf12,fs13⟩
    show T _ _ _ _ (Sat w0 [blk g0 [.int .i64 a0_x.tick,.int .i64 a0_x.players,.int .i64 a0_x.nextid,.int .i64 a0_x.g.w,.int .i64 a0_x.g.h,rowV qt9 a0_x.g.tiles.length,rowV qb10 a0_x.bs.length,rowV qu11 a0_x.us.length,.pointer (some ⟨gf12,0,none⟩)] 105,F,row nilH 5 (rowV qt9 a0_x.g.tiles.length) a0_x.g.tiles,row nilH 135 (rowV qb10 a0_x.bs.length) a0_x.bs,row nilH 54 (rowV qu11 a0_x.us.length) a0_x.us,Fld_ch gf12 fs13]) _
    refine T.drawn (fun _=>True) [(0,.pu),(1,.pu),(2,.pu),(3,.pu),(4,.rd),(6,.pu),(7,.pu),(8,.pu),(9,.rd),(5,.so),(10,.rd),(11,.pu),(12,.pu),(13,.br)] mixed (ClE.sat _ _) (by kernel_rfl) ?_
    refine dp rfl (Pu.move rfl) (dp rfl (Pu.move rfl) (dp rfl (Pu.nilCheck rfl) (dp rfl (Pu.fieldAddr fd105_0 rfl) (dq rfl (Qt.ldBA (us:=[_,_,_,_,_,_,_,_]) 0 ty52 rfl rfl rfl rfl) (dp rfl (Pu.move rfl) (dp rfl (Pu.nilCheck rfl) (dp rfl (Pu.fieldAddr fd105_1 rfl) (dq rfl (Qt.ldB 0 ty100 rfl rfl rfl) ?_))))))))
    obtain ⟨x14,hx14,H⟩:=bindE H
    refine RD.solid rfl (.inl rfl) rfl rfl (Sd.callN (vs:=[.agg #[.int .i64 a0_x.tick,.int .i64 a0_x.players,.int .i64 a0_x.nextid,.int .i64 a0_x.g.w,.int .i64 a0_x.g.h,rowV qt9 a0_x.g.tiles.length,rowV qb10 a0_x.bs.length,rowV qu11 a0_x.us.length]]) ent38 rfl (fun w s=>army_Own_walk a0_x w ((Rd.ofRowN 2 rfl) w s) ((Rd.ofRowN 3 rfl) w s) ((Rd.ofRowN 4 rfl) w s) hx14)) (fun _=>ClE.sat _ _) (fun _ _ _=>trivial) (fun _ _ _ s=>s.drop1) fun ⟨q15,q16,q17⟩=>?_
    obtain ⟨g18,H⟩:=gdE H
    refine dq rfl (Qt.call ent41 rfl fun w s=>move_Go_quick x14 w ((Rd.ofRowN 6 rfl) w s) ((Rd.ofRowN 7 rfl) w s) ((Rd.ofRowN 8 rfl) w s) (List.eq_nil_of_length_eq_zero g18) gf12) (dp rfl (Pu.nilCheck rfl) (dp rfl (Pu.fieldAddr fd105_0 rfl) (RD.solid rfl (.inr rfl) rfl rfl (Sd.stB (cs':=[_,_,_,_,_,_,_,_,_]) 0 ty52 rfl rfl rfl rfl rfl rfl rfl rfl) (fun _=>ClE.sat _ _) (fun _ _ _=>trivial) (fun h=>nomatch h) fun _=>?_)))
    refine RD.nil (hK10 _ _ (cq [(0,_),(6,_)] ?_))
    refine T.seq fun K11 hK11=>?_
    try dsimp only [List.set,List.cons_append,List.nil_append]
    refine T.region (rM rfl (rp (Pu.nilCheck rfl) (rp (Pu.fieldAddr fd105_0 rfl) (rp (Pu.fieldAddr fd52_0 rfl) (rq (Qt.ldB 0 ty3 rfl rfl rfl) ?_)))))
    obtain ⟨g19,H⟩:=gdE H
    refine rp (Pu.addS rfl rfl g19) (rp (Pu.nilCheck rfl) (rp (Pu.fieldAddr fd105_0 rfl) (rp (Pu.fieldAddr fd52_0 rfl) (RS.solid (Sd.stB (cs':=[_,_,_,_,_,_,_,_,_]) 0 ty3 rfl rfl rfl rfl rfl rfl rfl rfl) rfl rfl fun _=>RS.nil (hK11 _ _ (cq [(6,_)] ?_))))))
    refine T.seq fun K12 hK12=>?_
    try dsimp only [List.set,List.cons_append,List.nil_append]
    refine T.region (rM rfl (rA rfl (rA rfl (RS.nil (hK12 _ _ ?_)))))
    refine T.weakS (S':=Sat w0 [Eng_ch g0 (⟨(x14.tick + 1),x14.players,x14.nextid,x14.g,x14.bs,x14.us⟩:Wld),F,row nilH 5 (rowV qt9 a0_x.g.tiles.length) a0_x.g.tiles,row nilH 135 (rowV qb10 a0_x.bs.length) a0_x.bs,row nilH 54 (rowV qu11 a0_x.us.length) a0_x.us]) (fun w s=>Eng_shut (R:=[F,row nilH 5 (rowV qt9 a0_x.g.tiles.length) a0_x.g.tiles,row nilH 135 (rowV qb10 a0_x.bs.length) a0_x.bs,row nilH 54 (rowV qu11 a0_x.us.length) a0_x.us]) (x:=(⟨(x14.tick + 1),x14.players,x14.nextid,x14.g,x14.bs,x14.us⟩:Wld)) ⟨q15,q16,q17,gf12,fs13⟩ (s.pick [1,2,3,4,0,6,7,8,5] (by decide) rfl)) ?_
    obtain rfl:=sj H
    refine T.rt (Cont.ret2 rfl rfl rfl fun w' s=>?_)
    exact ⟨(none,0),rfl,(s.nilRow (α:=Int) 45).pick [0,1,5] (by decide) rfl⟩
   ·intro z8 hz8 HX8 hJ8
    refine T.block ?_
    refine T.loopA (γ:=Unit) hz8 [(0,_),(22,_),(23,_)] (fun v20 _=>[(6,.slice none 0 0),(24,.int .i64 v20)]) (fun v20 _=>Sat w0 [Eng_ch g0 a0_x,F]) () ⟨rfl,rfl,rfl,trivial⟩ ⟨rfl,rfl,trivial⟩ (fun w s=>s) ?_
    rintro v20 ⟨⟩ y21 H hd8 KL8 hL8
    try dsimp only [Ex.then] at H
    refine cq [(6,_),(24,_),(0,_),(22,_),(23,_)] ?_
    refine T.seq fun K13 hK13=>T.region (rp (Pu.bin rfl rfl rfl) (RS.nil (hK13 _ _ ?_)))
    refine T.seq fun K14 hK14=>?_
    refine T.condP rfl (fun hc22=>?_) (fun hc22=>?_)
    ·have H:=ifT hc22 H
     refine T.skip (hK14 _ _ ?_)
     refine T.seq fun K15 hK15=>T.block (T.seq fun K16 hK16=>?_)
     exact nomatch H
    ·have H:=ifF hc22 H
     refine T.xt ?_
     obtain rfl:=hd8 _ H
     refine id (hJ8 _ _ () () HX8 ⟨rfl,trivial⟩ ⟨rfl,trivial⟩ (fun w s=>s))
end Go.Proofs.YtmngdgclldkcfaaGreat
set_option linter.unusedVariables false
set_option linter.unusedSimpArgs false
set_option maxRecDepth 20000
set_option maxHeartbeats 4000000
namespace Go.Proofs.YtmngdgclldkcfaaGreat
open Go.Vg
open Enc (R)
theorem ent104:Ent Tryz.prog 104:=⟨_,_,Tryz.func104,by kernel_rfl,rfl⟩
theorem ent151:Ent Tryz.prog 151:=⟨_,_,Tryz.func151,by kernel_rfl,rfl⟩
theorem ent152:Ent Tryz.prog 152:=⟨_,_,Tryz.func152,by kernel_rfl,rfl⟩
theorem ent154:Ent Tryz.prog 154:=⟨_,_,Tryz.func154,by kernel_rfl,rfl⟩
theorem ent157:Ent Tryz.prog 157:=⟨_,_,Tryz.func157,by kernel_rfl,rfl⟩
theorem ent221:Ent Tryz.prog 221:=⟨_,_,Tryz.func221,by kernel_rfl,rfl⟩
theorem ent223:Ent Tryz.prog 223:=⟨_,_,Tryz.func223,by kernel_rfl,rfl⟩
theorem ent225:Ent Tryz.prog 225:=⟨_,_,Tryz.func225,by kernel_rfl,rfl⟩
theorem ent226:Ent Tryz.prog 226:=⟨_,_,Tryz.func226,by kernel_rfl,rfl⟩
theorem ent76:Ent Tryz.prog 76:=⟨_,_,Tryz.func76,by kernel_rfl,rfl⟩
theorem fd210_0:fdOff Tryz.prog 210 0 = some 0:=by kernel_rfl
theorem fd210_1:fdOff Tryz.prog 210 1 = some 1:=by kernel_rfl
theorem fd210_2:fdOff Tryz.prog 210 2 = some 2:=by kernel_rfl
theorem sl86:slTy Tryz.prog 86 = some (210,3,40):=by kernel_rfl
theorem ty210:tySz Tryz.prog 210 = some (3,true):=by kernel_rfl
theorem ty29:tySz Tryz.prog 29 = some (1,false):=by kernel_rfl
theorem zr210:zeroOf Tryz.prog 210 = some (.agg #[.int .i64 0,.int .i64 0,.slice none 0 0]):=by kernel_rfl
theorem cmp_Or_walk (a0_vals:List Int) (w:World) {v0:Value} (h0:R (hpOf w) a0_vals [v0]) {r:Int} (H:cmp_Or a0_vals = some r):Calls Tryz.prog 221 #[v0] w fun e w'=>e = .returned (.int .i64 r)∧Ext w w':=by
 have hm0:=R_max h0
 obtain ⟨p0,c0,rfl⟩:=R_form h0
 unfold cmp_Or at H
 refine T.enter (args:=[_]) (S:=Sat w []) Tryz.func221 rfl rfl (Sat.start w) ?_
 refine T.seq fun K1 hK1=>T.region (rA rfl (RS.nil (hK1 _ _ ?_)))
 refine T.seq fun K2 hK2=>T.region (rA rfl (RS.nil (hK2 _ _ ?_)))
 refine T.seq fun K3 hK3=>T.seq fun K4 hK4=>T.region (rM rfl (rp (Pu.lenSl sl35 rfl) (rM rfl (RS.nil (hK4 _ _ ?_)))))
 refine T.joinE (σ:=Unit) (γ:=Unit) H Ex.go [(3,_)] ⟨rfl,trivial⟩ (fun _ _=>[]) (fun _ _=>Sat w []) ?_ ?_
 ·rintro ⟨⟩ ⟨⟩ H
  try dsimp only [Ex.then] at H
  refine Cont.conseq (fr':=[(3,_)]) ?_ ⟨rfl,trivial⟩ (fun _ s=>s)
  refine id (hK3 _ _ ?_)
  refine T.seq fun K5 hK5=>T.region (rM rfl (rA rfl (RS.nil (hK5 _ _ ?_))))
  obtain rfl:=sj H
  refine T.rt (Cont.ret1 rfl rfl fun w' s=>?_)
  exact ⟨rfl,s.ext⟩
 ·intro z1 hz1 HX1 hJ1
  refine T.block ?_
  refine T.loopA (γ:=Unit) hz1 [(3,_),(6,_),(7,_)] (fun v2 _=>[(8,.int .i64 v2)]) (fun v2 _=>Sat w []) () ⟨rfl,rfl,rfl,trivial⟩ ⟨rfl,trivial⟩ (fun w s=>s) ?_
  rintro v2 ⟨⟩ y3 H hd1 KL1 hL1
  try dsimp only [Ex.then] at H
  refine cq [(8,_),(3,_),(6,_),(7,_)] ?_
  refine T.seq fun K6 hK6=>T.region (rp (Pu.bin rfl rfl rfl) (RS.nil (hK6 _ _ ?_)))
  refine T.seq fun K7 hK7=>?_
  refine T.condP rfl (fun hc4=>?_) (fun hc4=>?_)
  ·have H:=ifT hc4 H
   refine T.skip (hK7 _ _ ?_)
   refine T.seq fun K8 hK8=>T.block (T.seq fun K9 hK9=>T.region ?_)
   obtain ⟨g5,H⟩:=gdE H
   obtain ⟨bl6,ol7,rfl⟩:=R_ptr h0 (ne_of_pos (pos_of g5))
   refine rp (Pu.indexSl sl35 rfl rfl g5) (rq (Qt.ld0 (α:=Int) (Rd.base h0) ty3 rfl rfl g5 (by rintro _ _ rfl; rfl)) (rA rfl (RS.nil (hK9 _ _ (cq [(3,_),(5,_),(6,_),(7,_),(8,_)] ?_)))))
   refine T.seq fun K10 hK10=>T.region (rM rfl (rM rfl (rp (Pu.bin rfl rfl rfl) (RS.nil (hK10 _ _ ?_)))))
   refine T.condP rfl (fun hc8=>?_) (fun hc8=>?_)
   ·have H:=ifT hc8 H
    refine cq [(5,_)] ?_
    refine T.seq fun K11 hK11=>T.region (rM rfl (rA rfl (RS.nil (hK11 _ _ ?_))))
    obtain rfl:=hd1 _ H
    have H:=HX1
    obtain rfl:=sj H
    refine T.rt (Cont.ret1 rfl rfl fun w' s=>?_)
    exact ⟨rfl,s.ext⟩
   ·have H:=ifF hc8 H
    refine T.skip (hK8 _ _ (cq [(3,_),(6,_),(7,_),(8,_)] ?_))
    refine T.region ?_
    obtain ⟨g9,H⟩:=gdE H
    refine rp (Pu.addS rfl rfl g9) (rM rfl (RS.nil (hL1 _ _ (v2 + 1) () H ⟨rfl,rfl,rfl,trivial⟩ ⟨rfl,trivial⟩ (fun w s=>s))))
  ·have H:=ifF hc4 H
   obtain rfl:=hd1 _ H
   refine T.xt (hJ1 _ _ () () HX1 ⟨rfl,trivial⟩ trivial (fun w s=>s))
theorem turns_less_walk (a0_a:Inp) (a1_b:Inp) (w:World) {v0 v1:Value} {r:Int} (H:turns_less a0_a a1_b = some r):Calls Tryz.prog 152 #[.agg #[.int .i64 a0_a.turn,.int .i64 a0_a.player,v0],.agg #[.int .i64 a1_b.turn,.int .i64 a1_b.player,v1]] w fun e w'=>e = .returned (.int .i64 r)∧Ext w w':=by
 unfold turns_less at H
 refine T.enter (args:=[_,_]) (S:=Sat w []) Tryz.func152 rfl rfl (Sat.start w) ?_
 refine T.seq fun K1 hK1=>T.region (RS.solid (Sd.box (cs:=[_,_,_]) rfl rfl) rfl rfl fun b1=>RS.solid (Sd.box (cs:=[_,_,_]) rfl rfl) rfl rfl fun b2=>rA rfl (RS.nil (hK1 _ _ (cq [(2,_),(3,_)] ?_))))
 refine T.seq fun K2 hK2=>?_
 refine T.drawn (fun _=>True) [(0,.pu),(1,.rd),(2,.pu),(3,.rd),(4,.rd),(5,.pu),(6,.rd),(7,.pu),(8,.rd),(9,.rd),(10,.so),(11,.rd),(12,.pu)] mixed (ClE.sat _ _) (by kernel_rfl) ?_
 refine dp rfl (Pu.fieldAddr fd210_0 rfl) (dq rfl (Qt.ldB 0 ty3 rfl rfl rfl) (dp rfl (Pu.fieldAddr fd210_0 rfl) (dq rfl (Qt.ldB 1 ty3 rfl rfl rfl) ?_)))
 obtain ⟨x3,hx3,H⟩:=bindE H
 refine dq rfl (Qt.call (vs:=[.int .i64 a0_a.turn,.int .i64 a1_b.turn]) ent183 rfl fun w s=>cmp_Compare_walk a0_a.turn a1_b.turn w  hx3) (dp rfl (Pu.fieldAddr fd210_1 rfl) (dq rfl (Qt.ldB 0 ty3 rfl rfl rfl) (dp rfl (Pu.fieldAddr fd210_1 rfl) (dq rfl (Qt.ldB 1 ty3 rfl rfl rfl) ?_))))
 obtain ⟨x4,hx4,H⟩:=bindE H
 refine dq rfl (Qt.call (vs:=[.int .i64 a0_a.player,.int .i64 a1_b.player]) ent183 rfl fun w s=>cmp_Compare_walk a0_a.player a1_b.player w  hx4) (RD.solid rfl (.inl rfl) rfl rfl (Sd.litS (cs:=[_,_]) sl35 zr3 rfl rfl rfl rfl rfl) (fun _=>ClE.sat _ _) (fun _ _ _=>trivial) (fun _ _ _ s=>s.drop1) fun b5=>?_)
 obtain ⟨x6,hx6,H⟩:=bindE H
 refine dq rfl (Qt.call (vs:=[.slice (some ⟨b5,0,none⟩) 2 2]) ent221 rfl fun w s=>cmp_Or_walk [x3,x4] w ((Rd.ofLit (α:=Int) (n:=2) (xs:=[x3,x4]) 2 rfl (by decide) rfl ⟨[_],_,rfl,rfl,⟨[_],_,rfl,rfl,rfl⟩⟩) w s) hx6) (dp rfl (Pu.assign rfl) (RD.nil (hK2 _ _ (cq [(4,_)] ?_))))
 obtain rfl:=sj H
 refine T.rt (Cont.ret1 rfl rfl fun w' s=>?_)
 exact ⟨rfl,s.ext⟩
theorem turns_Said_walk (a0_player:Int) (a1_l:List Cmd) (w:World) {v0:Value} (h0:R (hpOf w) a1_l [v0]) {r:Bool} (H:turns_Said a0_player a1_l = some r):Calls Tryz.prog 154 #[.int .i64 a0_player,v0] w fun e w'=>e = .returned (.bool r)∧Ext w w':=by
 have hm0:=R_max h0
 obtain ⟨p0,c0,rfl⟩:=R_form h0
 unfold turns_Said at H
 refine T.enter (args:=[_,_]) (S:=Sat w []) Tryz.func154 rfl rfl (Sat.start w) ?_
 refine T.seq fun K1 hK1=>T.region (rA rfl (RS.nil (hK1 _ _ ?_)))
 refine T.seq fun K2 hK2=>T.seq fun K3 hK3=>T.region (rM rfl (rp (Pu.lenSl sl29 rfl) (rM rfl (RS.nil (hK3 _ _ ?_)))))
 refine T.joinE (σ:=Unit) (γ:=Unit) H Ex.go [(1,_)] ⟨rfl,trivial⟩ (fun _ _=>[]) (fun _ _=>Sat w []) ?_ ?_
 ·rintro ⟨⟩ ⟨⟩ H
  try dsimp only [Ex.then] at H
  refine Cont.conseq (fr':=[(1,_)]) ?_ ⟨rfl,trivial⟩ (fun _ s=>s)
  refine id (hK2 _ _ ?_)
  refine T.seq fun K4 hK4=>T.region (rM rfl (rp (Pu.lenSl sl29 rfl) (rp (Pu.bin rfl rfl rfl) (rA rfl (RS.nil (hK4 _ _ (cq [(4,_)] ?_)))))))
  obtain rfl:=sj H
  refine T.rt (Cont.ret1 rfl rfl fun w' s=>?_)
  exact ⟨rfl,s.ext⟩
 ·intro z1 hz1 HX1 hJ1
  refine T.block ?_
  refine T.loopA (γ:=Unit) hz1 [(0,_),(1,_),(7,_),(8,_)] (fun v2 _=>[(9,.int .i64 v2)]) (fun v2 _=>Sat w []) () ⟨rfl,rfl,rfl,rfl,trivial⟩ ⟨rfl,trivial⟩ (fun w s=>s) ?_
  rintro v2 ⟨⟩ y3 H hd1 KL1 hL1
  try dsimp only [Ex.then] at H
  refine cq [(9,_),(0,_),(1,_),(7,_),(8,_)] ?_
  refine T.seq fun K5 hK5=>T.region (rp (Pu.bin rfl rfl rfl) (RS.nil (hK5 _ _ ?_)))
  refine T.seq fun K6 hK6=>?_
  refine T.condP rfl (fun hc4=>?_) (fun hc4=>?_)
  ·have H:=ifT hc4 H
   refine T.skip (hK6 _ _ ?_)
   refine T.seq fun K7 hK7=>T.block (T.seq fun K8 hK8=>T.region (rM rfl ?_))
   obtain ⟨g5,H⟩:=gdE H
   obtain ⟨bl6,ol7,rfl⟩:=R_ptr h0 (ne_of_pos (pos_of g5))
   refine rp (Pu.indexSl sl29 rfl rfl g5) ?_
   obtain ⟨c8,hc9,ha10⟩:=R_el (α:=Cmd) h0 g5
   obtain ⟨u11,rfl,hu11⟩:=hc9
   obtain ⟨p12,cc13,rfl⟩:=R_form hu11
   refine rq (Qt.ldZ (cs:=[_,_,_,_,_,_,_,_,_,_]) ty37 rfl ha10 Held.base rfl) (RS.solid (Sd.alloc zr37 rfl) rfl rfl fun b14=>rA rfl (RS.solid (Sd.stB (cs':=[_,_,_,_,_,_,_,_,_,_]) 0 ty37 rfl rfl rfl rfl rfl rfl rfl rfl) rfl rfl fun _=>RS.nil (hK8 _ _ (cq [(0,_),(1,_),(5,_),(6,_),(7,_),(8,_),(9,_)] ?_))))
   refine T.seq fun K9 hK9=>?_
   refine T.drawn (fun _=>True) [(0,.rd),(1,.rd),(2,.pu),(3,.pu),(4,.pu),(5,.rd),(6,.pu),(7,.pu),(8,.pu),(9,.pu),(10,.pu),(11,.pu),(12,.pu),(13,.pu),(14,.pu),(15,.pu),(16,.pu),(17,.pu),(18,.rd),(19,.pu),(20,.rd),(21,.pu),(22,.pu),(23,.pu)] mixed (ClE.sat _ _) (by kernel_rfl) ?_
   refine dq rfl (Qt.ldBA (us:=[_,_,_,_,_,_,_,_,_,_]) 0 ty37 rfl rfl rfl rfl) ?_
   obtain ⟨x15,hx15,H⟩:=bindE H
   refine dq rfl (Qt.call (vs:=[.agg #[.int .i64 (gi a1_l v2).player,.int .i64 (gi a1_l v2).seq,.int .i64 (gi a1_l v2).kind,.int .i64 (gi a1_l v2).n,.slice p12 ((gi a1_l v2).units).length cc13,.int .i64 (gi a1_l v2).tile,.int .i64 (gi a1_l v2).w,.int .i64 (gi a1_l v2).h,.int .i64 (((gi a1_l v2).pos).x),.int .i64 (((gi a1_l v2).pos).y)]]) ent76 rfl fun w s=>command_May_walk (gi a1_l v2) w ((Rd.base hu11) w s) hx15) (dp rfl (Pu.not rfl) (dp rfl (Pu.move rfl) ?_))
   refine RD.joinV 5 22 (.bool (decide (((!x15) = true) ∨ (¬ (gi a1_l v2).player = a0_player)))) [(0,_),(1,_),(5,_),(6,_),(7,_),(8,_),(9,_)] ⟨rfl,rfl,rfl,rfl,rfl,rfl,rfl,trivial⟩ ?_ ?_
   ·refine dp rfl (Pu.move rfl) ?_
    obtain ⟨g20,H⟩:=gdE H
    obtain ⟨g21,H⟩:=gdE H
    refine RD.joinV 14 37 (.bool (decide ((((!x15) = true) ∨ (¬ (gi a1_l v2).player = a0_player)) ∨ ((0 < v2)∧((gi a1_l v2).seq ≤ (gi a1_l (v2 - 1)).seq))))) [(0,_),(1,_),(7,_),(8,_),(9,_)] ⟨rfl,rfl,rfl,rfl,rfl,trivial⟩ ?_ ?_
    ·refine RD.nil (hK9 _ _ ?_)
     refine T.condP rfl (fun hc22=>?_) (fun hc22=>?_)
     ·have H:=ifT hc22 H
      refine cq [] ?_
      refine T.seq fun K10 hK10=>T.region (rA rfl (RS.nil (hK10 _ _ ?_)))
      obtain rfl:=hd1 _ H
      have H:=HX1
      obtain rfl:=sj H
      refine T.rt (Cont.ret1 rfl rfl fun w' s=>?_)
      exact ⟨rfl,s.ext⟩
     ·have H:=ifF hc22 H
      refine T.skip (hK7 _ _ ?_)
      refine T.region ?_
      obtain ⟨g23,H⟩:=gdE H
      refine rp (Pu.addS rfl rfl g23) (rM rfl (RS.nil (hL1 _ _ (v2 + 1) () H ⟨rfl,rfl,rfl,rfl,trivial⟩ ⟨rfl,trivial⟩ (fun w s=>s.pick [] (by decide) rfl))))
    ·intro hJ19
     refine RD.splitP 23 rfl (fun hc18=>?_) (fun hc18=>?_)
     ·refine dn rfl (dn rfl (dn rfl (dn rfl (dn rfl (dn rfl (dn rfl (dn rfl (dn rfl (dn rfl (dn rfl (dn rfl (dn rfl (dp rfl (Pu.pickT rfl rfl) ?_)))))))))))))
      exact hJ19 _ ⟨dOrT hc18,rfl,rfl,rfl,rfl,rfl,trivial⟩
     ·refine dp rfl (Pu.move rfl) (dp rfl (Pu.bin rfl rfl rfl) (dp rfl (Pu.move rfl) ?_))
      refine RD.joinV 10 36 (.bool (decide ((0 < v2)∧((gi a1_l v2).seq ≤ (gi a1_l (v2 - 1)).seq)))) [(0,_),(1,_),(5,_),(6,_),(7,_),(8,_),(9,_),(22,_),(23,_),(24,_),(25,_)] ⟨rfl,rfl,rfl,rfl,rfl,rfl,rfl,rfl,rfl,rfl,rfl,trivial⟩ ?_ ?_
      ·refine dp rfl (Pu.pickF rfl rfl) ?_
       exact hJ19 _ ⟨dOrF hc18,rfl,rfl,rfl,rfl,rfl,trivial⟩
      ·intro hJ25
       refine RD.splitP 26 rfl (fun hc24=>?_) (fun hc24=>?_)
       ·refine dp rfl (Pu.move rfl) (dp rfl (Pu.move rfl) (dp rfl (Pu.subS rfl rfl ((g20 hc18) hc24)) (dp rfl (Pu.indexSl sl29 rfl rfl ((g21 hc18) hc24)) (dp rfl (Pu.fieldAddr fd37_1 rfl) (dq rfl (Qt.ldF (α:=Cmd) (Rd.base h0) ty3 rfl rfl ((g21 hc18) hc24) (by rintro _ _ ⟨_,rfl,_⟩; rfl)) (dp rfl (Pu.fieldAddr fd37_1 rfl) (dq rfl (Qt.ldB 0 ty3 rfl rfl rfl) (dp rfl (Pu.bin rfl rfl rfl) (dp rfl (Pu.pickT rfl rfl) ?_)))))))))
        exact hJ25 _ ⟨dAndT hc24,rfl,rfl,rfl,rfl,rfl,rfl,rfl,rfl,rfl,rfl,rfl,trivial⟩
       ·refine dn rfl (dn rfl (dn rfl (dn rfl (dn rfl (dn rfl (dn rfl (dn rfl (dn rfl (dp rfl (Pu.pickF rfl rfl) ?_)))))))))
        exact hJ25 _ ⟨dAndF hc24,rfl,rfl,rfl,rfl,rfl,rfl,rfl,rfl,rfl,rfl,rfl,trivial⟩
   ·intro hJ17
    refine RD.split 17 rfl (fun hc16=>?_) (fun hc16=>?_)
    ·refine dn rfl (dn rfl (dn rfl (dn rfl (dp rfl (Pu.pickT rfl rfl) ?_))))
     exact hJ17 _ ⟨dOrT hc16,rfl,rfl,rfl,rfl,rfl,rfl,rfl,trivial⟩
    ·refine dp rfl (Pu.fieldAddr fd37_0 rfl) (dq rfl (Qt.ldB 0 ty3 rfl rfl rfl) (dp rfl (Pu.move rfl) (dp rfl (Pu.bin rfl rfl rfl) (dp rfl (Pu.pickF rfl rfl) ?_))))
     exact hJ17 _ ⟨dOrF (bne_of hc16),rfl,rfl,rfl,rfl,rfl,rfl,rfl,trivial⟩
  ·have H:=ifF hc4 H
   obtain rfl:=hd1 _ H
   refine T.xt (hJ1 _ _ () () HX1 ⟨rfl,trivial⟩ trivial (fun w s=>s))
theorem turns_May_walk (a0_i:Inp) (w:World) {v0:Value} (h0:R (hpOf w) a0_i.commands [v0]) {r:Bool} (H:turns_May a0_i = some r):Calls Tryz.prog 151 #[.agg #[.int .i64 a0_i.turn,.int .i64 a0_i.player,v0]] w fun e w'=>e = .returned (.bool r)∧Ext w w':=by
 have hm0:=R_max h0
 obtain ⟨p0,c0,rfl⟩:=R_form h0
 unfold turns_May at H
 refine T.enter (args:=[_]) (S:=Sat w []) Tryz.func151 rfl rfl (Sat.start w) ?_
 refine T.seq fun K1 hK1=>T.region (RS.solid (Sd.box (cs:=[_,_,_]) rfl rfl) rfl rfl fun b1=>rA rfl (RS.nil (hK1 _ _ ?_)))
 refine T.seq fun K2 hK2=>T.region (rp (Pu.fieldAddr fd210_0 rfl) (rq (Qt.ldB 0 ty3 rfl rfl rfl) (rp (Pu.bin rfl rfl rfl) (rM rfl ?_))))
 refine RS.joinV 4 10 (.bool (decide ((0 ≤ a0_i.turn)∧(a0_i.turn ≤ 1099511627776)))) [(1,_),(2,_)] ⟨rfl,rfl,trivial⟩ ?_ ?_
 ·refine rM rfl ?_
  refine RS.joinV 4 15 (.bool (decide (((0 ≤ a0_i.turn)∧(a0_i.turn ≤ 1099511627776))∧(1 ≤ a0_i.player)))) [(1,_),(2,_)] ⟨rfl,rfl,trivial⟩ ?_ ?_
  ·refine rM rfl ?_
   refine RS.joinV 4 20 (.bool (decide ((((0 ≤ a0_i.turn)∧(a0_i.turn ≤ 1099511627776))∧(1 ≤ a0_i.player))∧(a0_i.player ≤ 8)))) [(1,_),(2,_)] ⟨rfl,rfl,trivial⟩ ?_ ?_
   ·refine rM rfl ?_
    refine RS.joinB H 6 27 (fun b10=>.bool b10) [(2,_)] ⟨rfl,trivial⟩ ?_ ?_
    ·intro b10 H
     refine rA rfl (RS.nil (hK2 _ _ ?_))
     obtain rfl:=sj H
     refine T.rt (Cont.ret1 rfl rfl fun w' s=>?_)
     exact ⟨rfl,s.ext⟩
    ·intro z11 H hJ9
     refine RS.splitP 21 rfl (fun hc8=>?_) (fun hc8=>?_)
     ·have H:=ifT hc8 H
      refine rp (Pu.fieldAddr fd210_1 rfl) (rq (Qt.ldB 0 ty3 rfl rfl rfl) (rp (Pu.fieldAddr fd210_2 rfl) (rq (Qt.ldB 0 ty29 rfl rfl rfl) ?_)))
      obtain ⟨x12,hx12,H⟩:=bindE H
      refine rq (Qt.call (vs:=[.int .i64 a0_i.player,.slice p0 a0_i.commands.length c0]) ent154 rfl fun w s=>turns_Said_walk a0_i.player a0_i.commands w ((Rd.base h0) w s) hx12) (rp (Pu.pickT rfl rfl) ?_)
      obtain rfl:=sj H
      exact hJ9 _ _ ⟨rfl,rfl,trivial⟩ (fun w s=>s)
     ·have H:=ifF hc8 H
      refine ro (ro (ro (ro (ro (rp (Pu.pickF rfl rfl) ?_)))))
      obtain rfl:=sj H
      exact hJ9 _ _ ⟨rfl,rfl,trivial⟩ (fun w s=>s)
   ·intro hJ7
    refine RS.splitP 16 rfl (fun hc6=>?_) (fun hc6=>?_)
    ·refine rp (Pu.fieldAddr fd210_1 rfl) (rq (Qt.ldB 0 ty3 rfl rfl rfl) (rp (Pu.bin rfl rfl rfl) (rp (Pu.pickT rfl rfl) ?_)))
     exact hJ7 _ _ ⟨dAndT hc6,rfl,rfl,trivial⟩ (fun w s=>s)
    ·refine ro (ro (ro (rp (Pu.pickF rfl rfl) ?_)))
     exact hJ7 _ _ ⟨dAndF hc6,rfl,rfl,trivial⟩ (fun w s=>s)
  ·intro hJ5
   refine RS.splitP 11 rfl (fun hc4=>?_) (fun hc4=>?_)
   ·refine rp (Pu.fieldAddr fd210_1 rfl) (rq (Qt.ldB 0 ty3 rfl rfl rfl) (rp (Pu.bin rfl rfl rfl) (rp (Pu.pickT rfl rfl) ?_)))
    exact hJ5 _ _ ⟨dAndT hc4,rfl,rfl,trivial⟩ (fun w s=>s)
   ·refine ro (ro (ro (rp (Pu.pickF rfl rfl) ?_)))
    exact hJ5 _ _ ⟨dAndF hc4,rfl,rfl,trivial⟩ (fun w s=>s)
 ·intro hJ3
  refine RS.splitP 6 rfl (fun hc2=>?_) (fun hc2=>?_)
  ·refine rp (Pu.fieldAddr fd210_0 rfl) (rq (Qt.ldB 0 ty3 rfl rfl rfl) (rp (Pu.bin rfl rfl rfl) (rp (Pu.pickT rfl rfl) ?_)))
   exact hJ3 _ _ ⟨dAndT hc2,rfl,rfl,trivial⟩ (fun w s=>s)
  ·refine ro (ro (ro (rp (Pu.pickF rfl rfl) ?_)))
   exact hJ3 _ _ ⟨dAndF hc2,rfl,rfl,trivial⟩ (fun w s=>s)
theorem turns_Own_walk (a0_i:Inp) (w:World) {v0:Value} (h0:R (hpOf w) a0_i.commands [v0]) {r:Inp} (H:turns_Own a0_i = some r):Calls Tryz.prog 157 #[.agg #[.int .i64 a0_i.turn,.int .i64 a0_i.player,v0]] w fun e w'=>∃ q1:(Option Nat × Nat),e = .returned (.agg #[.int .i64 r.turn,.int .i64 r.player,rowV q1 r.commands.length])∧Sat w [drow 37 (rowV q1 r.commands.length) r.commands] w':=by
 have hm0:=R_max h0
 obtain ⟨p0,c0,rfl⟩:=R_form h0
 unfold turns_Own at H
 refine T.enter (args:=[_]) (S:=Sat w []) Tryz.func157 rfl rfl (Sat.start w) ?_
 refine T.seq fun K1 hK1=>T.region (RS.solid (Sd.box (cs:=[_,_,_]) rfl rfl) rfl rfl fun b1=>RS.solid (Sd.alloc zr210 rfl) rfl rfl fun b2=>RS.nil (hK1 _ _ ?_))
 refine T.seq fun K2 hK2=>T.region (rp (Pu.fieldAddr fd210_2 rfl) (rq (Qt.ldB 0 ty29 rfl rfl rfl) ?_))
 obtain ⟨x3,hx3,H⟩:=bindE H
 refine RS.solid (Sd.callN (vs:=[.slice p0 a0_i.commands.length c0]) ent104 rfl (fun w s=>command_OwnAll_walk a0_i.commands w ((Rd.base h0) w s) hx3)) rfl rfl fun q4=>rp (Pu.fieldAddr fd210_2 rfl) (RS.solid (Sd.stB (cs':=[_,_,_]) 0 ty29 rfl rfl rfl rfl rfl rfl rfl rfl) rfl rfl fun _=>RS.nil (hK2 _ _ (cq [(1,_),(2,_)] ?_)))
 refine T.seq fun K3 hK3=>T.region (rq (Qt.ldBA (us:=[_,_,_]) 0 ty210 rfl rfl rfl rfl) (RS.solid (Sd.stB (cs':=[_,_,_]) 1 ty210 rfl rfl rfl rfl rfl rfl rfl rfl) rfl rfl fun _=>RS.nil (hK3 _ _ ?_)))
 obtain rfl:=sj H
 refine T.rt (Cont.retC 1 rfl ty210 rfl rfl rfl fun w' s=>?_)
 exact ⟨q4,rfl,s.pick [2] (by decide) rfl⟩
theorem turns_OwnAll_walk (a0_l:List Inp) (w:World) {v0:Value} (h0:R (hpOf w) a0_l [v0]) {r:List Inp} (H:turns_OwnAll a0_l = some r):Calls Tryz.prog 223 #[v0] w fun e w'=>∃ q1:(Option Nat × Nat),e = .returned (rowV q1 r.length)∧Sat w [drow 210 (rowV q1 r.length) r] w':=by
 have hm0:=R_max h0
 obtain ⟨p0,c0,rfl⟩:=R_form h0
 unfold turns_OwnAll at H
 refine T.enter (args:=[_]) (S:=Sat w []) Tryz.func223 rfl rfl (Sat.start w) ?_
 refine T.seq fun K1 hK1=>T.region (rA rfl (RS.nil (hK1 _ _ ?_)))
 refine T.seq fun K2 hK2=>T.seq fun K3 hK3=>T.region (rM rfl (rp (Pu.lenSl sl86 rfl) (rM rfl (RS.nil (hK3 _ _ ?_)))))
 refine T.joinE (σ:=List Inp) (γ:=(Option Nat × Nat)) H (fun s=>s) [] trivial (fun v2 q3=>[(2,rowV q3 v2.length)]) (fun v2 q3=>Sat w [drow 210 (rowV q3 v2.length) v2]) ?_ ?_
 ·rintro v2 q3 H
  try dsimp only [Ex.then] at H
  refine Cont.conseq (fr':=[(2,_)]) ?_ ⟨rfl,trivial⟩ (fun _ s=>s)
  refine id (hK2 _ _ ?_)
  refine T.seq fun K4 hK4=>T.region (rM rfl (rA rfl (RS.nil (hK4 _ _ ?_))))
  obtain rfl:=sj H
  refine T.rt (Cont.ret1 rfl rfl fun w' s=>?_)
  exact ⟨q3,rfl,s.pick [0] (by decide) rfl⟩
 ·intro z1 hz1 HX1 hJ1
  refine T.block ?_
  refine T.loopA (γ:=(Option Nat × Nat)) hz1 [(5,_),(6,_)] (fun (l4,v6) q5=>[(2,rowV q5 l4.length),(7,.int .i64 v6)]) (fun (l4,v6) q5=>Sat w [drow 210 (rowV q5 l4.length) l4]) (none,0) ⟨rfl,rfl,trivial⟩ ⟨rfl,rfl,trivial⟩ (fun w s=>(s.nilRowG (α:=Inp) 210).pick [0] (by decide) rfl) ?_
  rintro ⟨l4,v6⟩ q5 y7 H hd1 KL1 hL1
  try dsimp only [Ex.then] at H
  refine cq [(2,_),(7,_),(5,_),(6,_)] ?_
  refine T.seq fun K5 hK5=>T.region (rp (Pu.bin rfl rfl rfl) (RS.nil (hK5 _ _ ?_)))
  refine T.seq fun K6 hK6=>?_
  refine T.condP rfl (fun hc8=>?_) (fun hc8=>?_)
  ·have H:=ifT hc8 H
   refine T.skip (hK6 _ _ ?_)
   refine T.seq fun K7 hK7=>T.block (T.seq fun K8 hK8=>T.region ?_)
   obtain ⟨g9,H⟩:=gdE H
   obtain ⟨bl10,ol11,rfl⟩:=R_ptr h0 (ne_of_pos (pos_of g9))
   refine rp (Pu.indexSl sl86 rfl rfl g9) ?_
   obtain ⟨c12,hc13,ha14⟩:=R_el (α:=Inp) h0 g9
   obtain ⟨u15,rfl,hu15⟩:=hc13
   obtain ⟨p16,cc17,rfl⟩:=R_form hu15
   refine rq (Qt.ldZ (cs:=[_,_,_]) ty210 rfl ha14 Held.base rfl) (RS.solid (Sd.alloc zr210 rfl) rfl rfl fun b18=>RS.solid (Sd.stB (cs':=[_,_,_]) 1 ty210 rfl rfl rfl rfl rfl rfl rfl rfl) rfl rfl fun _=>RS.nil (hK8 _ _ (cq [(2,_),(4,_),(5,_),(6,_),(7,_)] ?_)))
   refine T.region (rM rfl (rq (Qt.ldBA (us:=[_,_,_]) 1 ty210 rfl rfl rfl rfl) ?_))
   obtain ⟨x19,hx19,H⟩:=bindE H
   refine RS.solid (Sd.callN (vs:=[.agg #[.int .i64 (gi a0_l v6).turn,.int .i64 (gi a0_l v6).player,.slice p16 ((gi a0_l v6).commands).length cc17]]) ent157 rfl (fun w s=>turns_Own_walk (gi a0_l v6) w ((Rd.base hu15) w s) hx19)) rfl rfl fun q20=>RS.solid (Sd.litS (cs:=[_,_,_]) sl86 zr210 rfl rfl rfl rfl rfl) rfl rfl fun b21=>?_
   obtain ⟨g23,H⟩:=gdE H
   refine RS.solid (Sd.pre (fun w s=>(Sat.starAt 2 4 (Sat.starAt 2 5 ((s.noStars).noStars) rfl rfl (by decide)) rfl rfl (by decide))) (Sd.appL (α:=Inp) 0 3 2 ([x19]:List Inp) rfl rfl rfl (DRF.cons' (α:=Inp) (x:=x19) (fun _ h=>⟨_,rfl,h⟩) DRF.nil') rfl sl86 zr210 rfl rfl rfl rfl g23 (by decide))) rfl rfl fun q22=>rA rfl (RS.nil (hK7 _ _ (cq [(2,_),(5,_),(6,_),(7,_)] ?_)))
   refine T.region ?_
   obtain ⟨g24,H⟩:=gdE H
   refine rp (Pu.addS rfl rfl g24) (rM rfl (RS.nil (hL1 _ _ ((l4 ++ ([x19]:List Inp)),(v6 + 1)) q22 H ⟨rfl,rfl,trivial⟩ ⟨rfl,rfl,trivial⟩ (fun w s=>s.pick [0] (by decide) rfl))))
  ·have H:=ifF hc8 H
   obtain rfl:=hd1 _ H
   refine T.xt (hJ1 _ _ l4 q5 HX1 trivial ⟨rfl,trivial⟩ (fun w s=>s))
theorem turns_Rising_walk (a0_l:List Inp) (w:World) {v0:Value} (h0:R (hpOf w) a0_l [v0]) {r:Bool} (H:turns_Rising a0_l = some r):Calls Tryz.prog 102 #[v0] w fun e w'=>e = .returned (.bool r)∧Ext w w':=by
 have hm0:=R_max h0
 obtain ⟨p0,c0,rfl⟩:=R_form h0
 unfold turns_Rising at H
 refine T.enter (args:=[_]) (S:=Sat w []) Tryz.func102 rfl rfl (Sat.start w) ?_
 refine T.seq fun K1 hK1=>T.region (rA rfl (RS.nil (hK1 _ _ ?_)))
 refine T.seq fun K2 hK2=>T.seq fun K3 hK3=>T.region (rM rfl (rp (Pu.lenSl sl86 rfl) (rM rfl (RS.nil (hK3 _ _ ?_)))))
 refine T.joinE (σ:=Unit) (γ:=Unit) H Ex.go [] trivial (fun _ _=>[]) (fun _ _=>Sat w []) ?_ ?_
 ·rintro ⟨⟩ ⟨⟩ H
  try dsimp only [Ex.then] at H
  refine Cont.conseq (fr':=[]) ?_ trivial (fun _ s=>s)
  refine id (hK2 _ _ ?_)
  refine T.seq fun K4 hK4=>T.region (rA rfl (RS.nil (hK4 _ _ ?_)))
  obtain rfl:=sj H
  refine T.rt (Cont.ret1 rfl rfl fun w' s=>?_)
  exact ⟨rfl,s.ext⟩
 ·intro z1 hz1 HX1 hJ1
  refine T.block ?_
  refine T.loopA (γ:=Unit) hz1 [(0,_),(5,_),(6,_)] (fun v2 _=>[(7,.int .i64 v2)]) (fun v2 _=>Sat w []) () ⟨rfl,rfl,rfl,trivial⟩ ⟨rfl,trivial⟩ (fun w s=>s) ?_
  rintro v2 ⟨⟩ y3 H hd1 KL1 hL1
  try dsimp only [Ex.then] at H
  refine cq [(7,_),(0,_),(5,_),(6,_)] ?_
  refine T.seq fun K5 hK5=>T.region (rp (Pu.bin rfl rfl rfl) (RS.nil (hK5 _ _ ?_)))
  refine T.seq fun K6 hK6=>?_
  refine T.condP rfl (fun hc4=>?_) (fun hc4=>?_)
  ·have H:=ifT hc4 H
   refine T.skip (hK6 _ _ ?_)
   refine T.seq fun K7 hK7=>T.block (T.seq fun K8 hK8=>T.region (rM rfl ?_))
   obtain ⟨g5,H⟩:=gdE H
   obtain ⟨bl6,ol7,rfl⟩:=R_ptr h0 (ne_of_pos (pos_of g5))
   refine rp (Pu.indexSl sl86 rfl rfl g5) ?_
   obtain ⟨c8,hc9,ha10⟩:=R_el (α:=Inp) h0 g5
   obtain ⟨u11,rfl,hu11⟩:=hc9
   obtain ⟨p12,cc13,rfl⟩:=R_form hu11
   refine rq (Qt.ldZ (cs:=[_,_,_]) ty210 rfl ha10 Held.base rfl) (RS.solid (Sd.alloc zr210 rfl) rfl rfl fun b14=>rA rfl (RS.solid (Sd.stB (cs':=[_,_,_]) 0 ty210 rfl rfl rfl rfl rfl rfl rfl rfl) rfl rfl fun _=>RS.nil (hK8 _ _ (cq [(0,_),(3,_),(4,_),(5,_),(6,_),(7,_)] ?_))))
   refine T.seq fun K9 hK9=>?_
   refine T.drawn (fun _=>True) [(0,.rd),(1,.rd),(2,.pu),(3,.pu),(4,.pu),(5,.pu),(6,.pu),(7,.pu),(8,.pu),(9,.pu),(10,.pu),(11,.rd),(12,.rd),(13,.rd),(14,.pu),(15,.pu),(16,.pu)] mixed (ClE.sat _ _) (by kernel_rfl) ?_
   refine dq rfl (Qt.ldBA (us:=[_,_,_]) 0 ty210 rfl rfl rfl rfl) ?_
   obtain ⟨x15,hx15,H⟩:=bindE H
   refine dq rfl (Qt.call (vs:=[.agg #[.int .i64 (gi a0_l v2).turn,.int .i64 (gi a0_l v2).player,.slice p12 ((gi a0_l v2).commands).length cc13]]) ent151 rfl fun w s=>turns_May_walk (gi a0_l v2) w ((Rd.base hu11) w s) hx15) (dp rfl (Pu.not rfl) (dp rfl (Pu.move rfl) ?_))
   refine RD.joinB H 13 28 (fun b18=>.bool b18) [(0,_),(5,_),(6,_),(7,_)] ⟨rfl,rfl,rfl,rfl,trivial⟩ ?_ ?_
   ·intro b18 H
    refine RD.nil (hK9 _ _ ?_)
    refine T.cond rfl (fun hc19=>?_) (fun hc19=>?_)
    ·have H:=ifT hc19 H
     refine cq [] ?_
     refine T.seq fun K10 hK10=>T.region (rA rfl (RS.nil (hK10 _ _ ?_)))
     obtain rfl:=hd1 _ H
     have H:=HX1
     obtain rfl:=sj H
     refine T.rt (Cont.ret1 rfl rfl fun w' s=>?_)
     exact ⟨rfl,s.ext⟩
    ·have H:=ifB hc19 H
     refine T.skip (hK7 _ _ ?_)
     refine T.region ?_
     obtain ⟨g20,H⟩:=gdE H
     refine rp (Pu.addS rfl rfl g20) (rM rfl (RS.nil (hL1 _ _ (v2 + 1) () H ⟨rfl,rfl,rfl,trivial⟩ ⟨rfl,trivial⟩ (fun w s=>s.pick [] (by decide) rfl))))
   ·intro z21 H hJ17
    refine RD.split 15 rfl (fun hc16=>?_) (fun hc16=>?_)
    ·have H:=ifT hc16 H
     refine dn rfl (dn rfl (dn rfl (dn rfl (dn rfl (dn rfl (dn rfl (dn rfl (dn rfl (dn rfl (dn rfl (dn rfl (dp rfl (Pu.pickT rfl rfl) ?_))))))))))))
     obtain rfl:=sj H
     exact hJ17 _ ⟨rfl,rfl,rfl,rfl,rfl,trivial⟩
    ·have H:=ifB hc16 H
     refine dp rfl (Pu.move rfl) (dp rfl (Pu.bin rfl rfl rfl) (dp rfl (Pu.move rfl) ?_))
     refine RD.joinB H 9 27 (fun b24=>.bool b24) [(0,_),(3,_),(4,_),(5,_),(6,_),(7,_),(12,_),(13,_),(14,_),(15,_),(16,_),(17,_)] ⟨rfl,rfl,rfl,rfl,rfl,rfl,rfl,rfl,rfl,rfl,rfl,rfl,trivial⟩ ?_ ?_
     ·intro b24 H
      refine dp rfl (Pu.pickF rfl rfl) ?_
      obtain rfl:=sj H
      exact hJ17 _ ⟨rfl,rfl,rfl,rfl,rfl,trivial⟩
     ·intro z25 H hJ23
      refine RD.splitP 18 rfl (fun hc22=>?_) (fun hc22=>?_)
      ·have H:=ifT hc22 H
       refine dp rfl (Pu.move rfl) (dp rfl (Pu.move rfl) ?_)
       obtain ⟨g26,H⟩:=gdE H
       refine dp rfl (Pu.subS rfl rfl g26) ?_
       obtain ⟨g27,H⟩:=gdE H
       refine dp rfl (Pu.indexSl sl86 rfl rfl g27) ?_
       obtain ⟨c28,hc29,ha30⟩:=R_el (α:=Inp) h0 g27
       obtain ⟨u31,rfl,hu31⟩:=hc29
       obtain ⟨p32,cc33,rfl⟩:=R_form hu31
       refine dq rfl (Qt.ldZ (cs:=[_,_,_]) ty210 rfl ha30 Held.base rfl) (dq rfl (Qt.ldBA (us:=[_,_,_]) 0 ty210 rfl rfl rfl rfl) ?_)
       obtain ⟨x34,hx34,H⟩:=bindE H
       refine dq rfl (Qt.call (vs:=[.agg #[.int .i64 (gi a0_l (v2 - 1)).turn,.int .i64 (gi a0_l (v2 - 1)).player,.slice p32 ((gi a0_l (v2 - 1)).commands).length cc33],.agg #[.int .i64 (gi a0_l v2).turn,.int .i64 (gi a0_l v2).player,.slice p12 ((gi a0_l v2).commands).length cc13]]) ent152 rfl fun w s=>turns_less_walk (gi a0_l (v2 - 1)) (gi a0_l v2) w  hx34) (dp rfl (Pu.bin rfl rfl rfl) (dp rfl (Pu.pickT rfl rfl) ?_))
       obtain rfl:=sj H
       exact hJ23 _ ⟨rfl,rfl,rfl,rfl,rfl,rfl,rfl,rfl,rfl,rfl,rfl,rfl,rfl,trivial⟩
      ·have H:=ifF hc22 H
       refine dn rfl (dn rfl (dn rfl (dn rfl (dn rfl (dn rfl (dn rfl (dn rfl (dp rfl (Pu.pickF rfl rfl) ?_))))))))
       obtain rfl:=sj H
       exact hJ23 _ ⟨rfl,rfl,rfl,rfl,rfl,rfl,rfl,rfl,rfl,rfl,rfl,rfl,rfl,trivial⟩
  ·have H:=ifF hc4 H
   obtain rfl:=hd1 _ H
   refine T.xt (hJ1 _ _ () () HX1 trivial trivial (fun w s=>s))
theorem turns_All_walk (a0_l:List Inp) (w:World) {v0:Value} (h0:R (hpOf w) a0_l [v0]) {r:List Cmd} (H:turns_All a0_l = some r):Calls Tryz.prog 229 #[v0] w fun e w'=>∃ q1:(Option Nat × Nat),e = .returned (rowV q1 r.length)∧Sat w [drow 37 (rowV q1 r.length) r] w':=by
 have hm0:=R_max h0
 obtain ⟨p0,c0,rfl⟩:=R_form h0
 unfold turns_All at H
 refine T.enter (args:=[_]) (S:=Sat w []) Tryz.func229 rfl rfl (Sat.start w) ?_
 refine T.seq fun K1 hK1=>T.region (rA rfl (RS.nil (hK1 _ _ ?_)))
 refine T.seq fun K2 hK2=>T.seq fun K3 hK3=>T.region (rM rfl (rp (Pu.lenSl sl86 rfl) (rM rfl (RS.nil (hK3 _ _ ?_)))))
 refine T.joinE (σ:=List Cmd) (γ:=(Option Nat × Nat)) H (fun s=>s) [] trivial (fun v2 q3=>[(2,rowV q3 v2.length)]) (fun v2 q3=>Sat w [drow 37 (rowV q3 v2.length) v2]) ?_ ?_
 ·rintro v2 q3 H
  try dsimp only [Ex.then] at H
  refine Cont.conseq (fr':=[(2,_)]) ?_ ⟨rfl,trivial⟩ (fun _ s=>s)
  refine id (hK2 _ _ ?_)
  refine T.seq fun K4 hK4=>T.region (rM rfl (rA rfl (RS.nil (hK4 _ _ ?_))))
  obtain rfl:=sj H
  refine T.rt (Cont.ret1 rfl rfl fun w' s=>?_)
  exact ⟨q3,rfl,s.pick [0] (by decide) rfl⟩
 ·intro z1 hz1 HX1 hJ1
  refine T.block ?_
  refine T.loopA (γ:=(Option Nat × Nat)) hz1 [(5,_),(6,_)] (fun (l4,v6) q5=>[(2,rowV q5 l4.length),(7,.int .i64 v6)]) (fun (l4,v6) q5=>Sat w [drow 37 (rowV q5 l4.length) l4]) (none,0) ⟨rfl,rfl,trivial⟩ ⟨rfl,rfl,trivial⟩ (fun w s=>(s.nilRowG (α:=Cmd) 37).pick [0] (by decide) rfl) ?_
  rintro ⟨l4,v6⟩ q5 y7 H hd1 KL1 hL1
  try dsimp only [Ex.then] at H
  refine cq [(2,_),(7,_),(5,_),(6,_)] ?_
  refine T.seq fun K5 hK5=>T.region (rp (Pu.bin rfl rfl rfl) (RS.nil (hK5 _ _ ?_)))
  refine T.seq fun K6 hK6=>?_
  refine T.condP rfl (fun hc8=>?_) (fun hc8=>?_)
  ·have H:=ifT hc8 H
   refine T.skip (hK6 _ _ ?_)
   refine T.seq fun K7 hK7=>T.block (T.seq fun K8 hK8=>T.region ?_)
   obtain ⟨g9,H⟩:=gdE H
   obtain ⟨bl10,ol11,rfl⟩:=R_ptr h0 (ne_of_pos (pos_of g9))
   refine rp (Pu.indexSl sl86 rfl rfl g9) ?_
   obtain ⟨c12,hc13,ha14⟩:=R_el (α:=Inp) h0 g9
   obtain ⟨u15,rfl,hu15⟩:=hc13
   obtain ⟨p16,cc17,rfl⟩:=R_form hu15
   refine rq (Qt.ldZ (cs:=[_,_,_]) ty210 rfl ha14 Held.base rfl) (RS.solid (Sd.alloc zr210 rfl) rfl rfl fun b18=>RS.solid (Sd.stB (cs':=[_,_,_]) 1 ty210 rfl rfl rfl rfl rfl rfl rfl rfl) rfl rfl fun _=>RS.nil (hK8 _ _ (cq [(2,_),(4,_),(5,_),(6,_),(7,_)] ?_)))
   refine T.region (rM rfl (rp (Pu.fieldAddr fd210_2 rfl) (rq (Qt.ldB 1 ty29 rfl rfl rfl) ?_)))
   obtain ⟨x19,hx19,H⟩:=bindE H
   refine RS.solid (Sd.callN (vs:=[.slice p16 ((gi a0_l v6).commands).length cc17]) ent104 rfl (fun w s=>command_OwnAll_walk (gi a0_l v6).commands w ((Rd.base hu15) w s) hx19)) rfl rfl fun q20=>?_
   obtain ⟨g22,H⟩:=gdE H
   refine RS.solid (Sd.appD (α:=Cmd) 0 2 rfl rfl rfl sl29 zr37 rfl rfl rfl g22 (by decide)) rfl rfl fun q21=>rA rfl (RS.nil (hK7 _ _ (cq [(2,_),(5,_),(6,_),(7,_)] ?_)))
   refine T.region ?_
   obtain ⟨g23,H⟩:=gdE H
   refine rp (Pu.addS rfl rfl g23) (rM rfl (RS.nil (hL1 _ _ ((l4 ++ x19),(v6 + 1)) q21 H ⟨rfl,rfl,trivial⟩ ⟨rfl,rfl,trivial⟩ (fun w s=>s.pick [0] (by decide) rfl))))
  ·have H:=ifF hc8 H
   obtain rfl:=hd1 _ H
   refine T.xt (hJ1 _ _ l4 q5 HX1 trivial ⟨rfl,trivial⟩ (fun w s=>s))
theorem turns_Part_walk (a0_l:List Inp) (a1_turn:Int) (w:World) {v0:Value} (h0:R (hpOf w) a0_l [v0]) {r:List Inp × List Inp} (H:turns_Part a0_l a1_turn = some r):Calls Tryz.prog 228 #[v0,.int .i64 a1_turn] w fun e w'=>∃ g:(Option Nat × Nat) × (Option Nat × Nat),e = .returned (.tuple #[rowV g.1 r.1.length,rowV g.2 r.2.length])∧Sat w [drow 210 (rowV g.1 r.1.length) r.1,drow 210 (rowV g.2 r.2.length) r.2] w':=by
 have hm0:=R_max h0
 obtain ⟨p0,c0,rfl⟩:=R_form h0
 unfold turns_Part at H
 refine T.enter (args:=[_,_]) (S:=Sat w []) Tryz.func228 rfl rfl (Sat.start w) ?_
 refine T.seq fun K1 hK1=>T.region (rA rfl (rA rfl (RS.nil (hK1 _ _ ?_))))
 refine T.seq fun K2 hK2=>T.seq fun K3 hK3=>T.region (rM rfl (rp (Pu.lenSl sl86 rfl) (rM rfl (RS.nil (hK3 _ _ ?_)))))
 refine T.joinE (σ:=List Inp × List Inp) (γ:=(Option Nat × Nat) × (Option Nat × Nat)) H (fun s=>s) [] trivial (fun (v2,v4) (q3,q5)=>[(4,rowV q3 v2.length),(5,rowV q5 v4.length)]) (fun (v2,v4) (q3,q5)=>Sat w [drow 210 (rowV q3 v2.length) v2,drow 210 (rowV q5 v4.length) v4]) ?_ ?_
 ·rintro ⟨v2,v4⟩ ⟨q3,q5⟩ H
  try dsimp only [Ex.then] at H
  refine Cont.conseq (fr':=[(4,_),(5,_)]) ?_ ⟨rfl,rfl,trivial⟩ (fun _ s=>s)
  refine id (hK2 _ _ ?_)
  refine T.seq fun K4 hK4=>T.region (rM rfl (rM rfl (rA rfl (rA rfl (RS.nil (hK4 _ _ ?_))))))
  obtain rfl:=sj H
  refine T.rt (Cont.ret2 rfl rfl rfl fun w' s=>?_)
  exact ⟨⟨q3,q5⟩,rfl,s.pick [0,1] (by decide) rfl⟩
 ·intro z1 hz1 HX1 hJ1
  refine T.block ?_
  refine T.loopA (γ:=(Option Nat × Nat) × (Option Nat × Nat)) hz1 [(1,_),(8,_),(9,_)] (fun (l6,l8,v10) (q7,q9)=>[(4,rowV q7 l6.length),(5,rowV q9 l8.length),(10,.int .i64 v10)]) (fun (l6,l8,v10) (q7,q9)=>Sat w [drow 210 (rowV q7 l6.length) l6,drow 210 (rowV q9 l8.length) l8]) ((none,0),(none,0)) ⟨rfl,rfl,rfl,trivial⟩ ⟨rfl,rfl,rfl,trivial⟩ (fun w s=>((s.nilRowG (α:=Inp) 210).nilRowG (α:=Inp) 210).pick [0,1] (by decide) rfl) ?_
  rintro ⟨l6,l8,v10⟩ ⟨q7,q9⟩ y11 H hd1 KL1 hL1
  try dsimp only [Ex.then] at H
  refine cq [(4,_),(5,_),(10,_),(1,_),(8,_),(9,_)] ?_
  refine T.seq fun K5 hK5=>T.region (rp (Pu.bin rfl rfl rfl) (RS.nil (hK5 _ _ ?_)))
  refine T.seq fun K6 hK6=>?_
  refine T.condP rfl (fun hc12=>?_) (fun hc12=>?_)
  ·have H:=ifT hc12 H
   refine T.skip (hK6 _ _ ?_)
   refine T.seq fun K7 hK7=>T.block (T.seq fun K8 hK8=>T.region ?_)
   obtain ⟨g13,H⟩:=gdE H
   obtain ⟨bl14,ol15,rfl⟩:=R_ptr h0 (ne_of_pos (pos_of g13))
   refine rp (Pu.indexSl sl86 rfl rfl g13) ?_
   obtain ⟨c16,hc17,ha18⟩:=R_el (α:=Inp) h0 g13
   obtain ⟨u19,rfl,hu19⟩:=hc17
   obtain ⟨p20,cc21,rfl⟩:=R_form hu19
   refine rq (Qt.ldZ (cs:=[_,_,_]) ty210 rfl ha18 Held.base rfl) (RS.solid (Sd.alloc zr210 rfl) rfl rfl fun b22=>RS.solid (Sd.stB (cs':=[_,_,_]) 2 ty210 rfl rfl rfl rfl rfl rfl rfl rfl) rfl rfl fun _=>RS.nil (hK8 _ _ (cq [(1,_),(4,_),(5,_),(7,_),(8,_),(9,_),(10,_)] ?_)))
   refine T.seq fun K9 hK9=>T.region (rp (Pu.fieldAddr fd210_0 rfl) (rq (Qt.ldB 2 ty3 rfl rfl rfl) (rM rfl (rp (Pu.bin rfl rfl rfl) (RS.nil (hK9 _ _ ?_))))))
   refine T.condP rfl (fun hc23=>?_) (fun hc23=>?_)
   ·have H:=ifT hc23 H
    refine cq [(1,_),(4,_),(5,_),(7,_),(8,_),(9,_),(10,_)] ?_
    refine T.region (rM rfl (rq (Qt.ldBA (us:=[_,_,_]) 2 ty210 rfl rfl rfl rfl) ?_))
    obtain ⟨x24,hx24,H⟩:=bindE H
    refine RS.solid (Sd.callN (vs:=[.agg #[.int .i64 (gi a0_l v10).turn,.int .i64 (gi a0_l v10).player,.slice p20 ((gi a0_l v10).commands).length cc21]]) ent157 rfl (fun w s=>turns_Own_walk (gi a0_l v10) w ((Rd.base hu19) w s) hx24)) rfl rfl fun q25=>RS.solid (Sd.litS (cs:=[_,_,_]) sl86 zr210 rfl rfl rfl rfl rfl) rfl rfl fun b26=>?_
    obtain ⟨g28,H⟩:=gdE H
    refine RS.solid (Sd.pre (fun w s=>(Sat.starAt 3 5 (Sat.starAt 3 6 ((s.noStars).noStars) rfl rfl (by decide)) rfl rfl (by decide))) (Sd.appL (α:=Inp) 0 4 3 ([x24]:List Inp) rfl rfl rfl (DRF.cons' (α:=Inp) (x:=x24) (fun _ h=>⟨_,rfl,h⟩) DRF.nil') rfl sl86 zr210 rfl rfl rfl rfl g28 (by decide))) rfl rfl fun q27=>rA rfl (RS.nil (hK7 _ _ (cq [(1,_),(4,_),(5,_),(8,_),(9,_),(10,_)] ?_)))
    refine T.region ?_
    obtain ⟨g29,H⟩:=gdE H
    refine rp (Pu.addS rfl rfl g29) (rM rfl (RS.nil (hL1 _ _ ((l6 ++ ([x24]:List Inp)),l8,(v10 + 1)) (q27,q9) H ⟨rfl,rfl,rfl,trivial⟩ ⟨rfl,rfl,rfl,trivial⟩ (fun w s=>s.pick [0,1] (by decide) rfl))))
   ·have H:=ifF hc23 H
    refine cq [(1,_),(4,_),(5,_),(7,_),(8,_),(9,_),(10,_)] ?_
    refine T.region (rM rfl (rq (Qt.ldBA (us:=[_,_,_]) 2 ty210 rfl rfl rfl rfl) ?_))
    obtain ⟨x30,hx30,H⟩:=bindE H
    refine RS.solid (Sd.callN (vs:=[.agg #[.int .i64 (gi a0_l v10).turn,.int .i64 (gi a0_l v10).player,.slice p20 ((gi a0_l v10).commands).length cc21]]) ent157 rfl (fun w s=>turns_Own_walk (gi a0_l v10) w ((Rd.base hu19) w s) hx30)) rfl rfl fun q31=>RS.solid (Sd.litS (cs:=[_,_,_]) sl86 zr210 rfl rfl rfl rfl rfl) rfl rfl fun b32=>?_
    obtain ⟨g34,H⟩:=gdE H
    refine RS.solid (Sd.pre (fun w s=>(Sat.starAt 3 5 (Sat.starAt 3 6 ((s.noStars).noStars) rfl rfl (by decide)) rfl rfl (by decide))) (Sd.appL (α:=Inp) 1 4 3 ([x30]:List Inp) rfl rfl rfl (DRF.cons' (α:=Inp) (x:=x30) (fun _ h=>⟨_,rfl,h⟩) DRF.nil') rfl sl86 zr210 rfl rfl rfl rfl g34 (by decide))) rfl rfl fun q33=>rA rfl (RS.nil (hK7 _ _ (cq [(1,_),(4,_),(5,_),(8,_),(9,_),(10,_)] ?_)))
    refine T.region ?_
    obtain ⟨g35,H⟩:=gdE H
    refine rp (Pu.addS rfl rfl g35) (rM rfl (RS.nil (hL1 _ _ (l6,(l8 ++ ([x30]:List Inp)),(v10 + 1)) (q7,q33) H ⟨rfl,rfl,rfl,trivial⟩ ⟨rfl,rfl,rfl,trivial⟩ (fun w s=>s.pick [0,1] (by decide) rfl))))
  ·have H:=ifF hc12 H
   obtain rfl:=hd1 _ H
   refine T.xt (hJ1 _ _ (l6,l8) (q7,q9) HX1 trivial ⟨rfl,rfl,trivial⟩ (fun w s=>s))
theorem slices_BinarySearchFuncI_walk (a0_x:List Inp) (a1_target:Inp) (a2_cmp:(Inp × Inp)→Option Int) (w:World) {v0 v1 v2:Value} (h0:R (hpOf w) a0_x [v0]) (h1:R (hpOf w) a1_target.commands [v1]) (h2:FnR Tryz.prog w v2 (fun (z:Inp × Inp) c=>∃ u0 u1:Value,c = [.agg #[.int .i64 z.1.turn,.int .i64 z.1.player,u0],.agg #[.int .i64 z.2.turn,.int .i64 z.2.player,u1]]) (fun (r:Int)=>.int .i64 r) a2_cmp) {r:Int × Bool} (H:slices_BinarySearchFuncI a0_x a1_target a2_cmp = some r):Calls Tryz.prog 225 #[v0,.agg #[.int .i64 a1_target.turn,.int .i64 a1_target.player,v1],v2] w fun e w'=>e = .returned (.tuple #[.int .i64 r.1,.bool r.2])∧Ext w w':=by
 have hm0:=R_max h0
 obtain ⟨p0,c0,rfl⟩:=R_form h0
 have hm1:=R_max h1
 obtain ⟨p1,c1,rfl⟩:=R_form h1
 unfold slices_BinarySearchFuncI at H
 refine T.enter (args:=[_,_,_]) (S:=Sat w []) Tryz.func225 rfl rfl (Sat.start w) ?_
 refine T.seq fun K1 hK1=>T.region (RS.solid (Sd.box (cs:=[_,_,_]) rfl rfl) rfl rfl fun b1=>rA rfl (rA rfl (RS.nil (hK1 _ _ (cq [(0,_),(2,_),(4,_)] ?_)))))
 refine T.seq fun K2 hK2=>T.region (rM rfl (rp (Pu.lenSl sl86 rfl) (rA rfl (RS.nil (hK2 _ _ ?_)))))
 refine T.seq fun K3 hK3=>T.region (rM rfl (rA rfl (rA rfl (RS.nil (hK3 _ _ (cq [(0,_),(2,_),(4,_),(8,_),(9,_),(10,_)] ?_))))))
 refine T.joinA (σ:=Int) (γ:=Unit) H (fun s=>s) [(0,_),(2,_),(4,_),(8,_)] ⟨rfl,rfl,rfl,rfl,trivial⟩ (fun v3 _=>[(9,.int .i64 v3)]) (fun v3 _=>Sat w [blk b1 [.int .i64 a1_target.turn,.int .i64 a1_target.player,.slice p1 a1_target.commands.length c1] 210]) ?_ ?_
 ·rintro v3 ⟨⟩ H
  try dsimp only [Ex.then] at H
  refine cq [(9,_),(0,_),(2,_),(4,_),(8,_)] ?_
  refine T.seq fun K5 hK5=>?_
  refine T.drawn (fun _=>True) [(0,.pu),(1,.pu),(2,.pu),(3,.pu),(4,.pu),(5,.pu),(6,.pu),(7,.pu),(8,.pu),(9,.rd),(10,.rd),(11,.rd),(12,.pu),(13,.pu),(14,.pu),(15,.pu)] mixed (ClE.sat _ _) (by kernel_rfl) ?_
  refine dp rfl (Pu.move rfl) (dp rfl (Pu.move rfl) (dp rfl (Pu.move rfl) (dp rfl (Pu.bin rfl rfl rfl) (dp rfl (Pu.move rfl) ?_))))
  refine RD.joinB H 9 48 (fun b6=>.bool b6) [(35,_)] ⟨rfl,trivial⟩ ?_ ?_
  ·intro b6 H
   refine dp rfl (Pu.assign rfl) (dp rfl (Pu.assign rfl) (RD.nil (hK5 _ _ ?_)))
   obtain rfl:=sj H
   refine T.rt (Cont.ret2 rfl rfl rfl fun w' s=>?_)
   exact ⟨rfl,s.ext⟩
  ·intro z7 H hJ5
   refine RD.splitP 39 rfl (fun hc4=>?_) (fun hc4=>?_)
   ·have H:=ifT hc4 H
    refine dp rfl (Pu.move rfl) (dp rfl (Pu.move rfl) (dp rfl (Pu.move rfl) ?_))
    obtain ⟨g8,H⟩:=gdE H
    obtain ⟨bl9,ol10,rfl⟩:=R_ptr h0 (ne_of_pos (pos_of g8))
    refine dp rfl (Pu.indexSl sl86 rfl rfl g8) ?_
    obtain ⟨c11,hc12,ha13⟩:=R_el (α:=Inp) h0 g8
    obtain ⟨u14,rfl,hu14⟩:=hc12
    obtain ⟨p15,cc16,rfl⟩:=R_form hu14
    refine dq rfl (Qt.ldZ (cs:=[_,_,_]) ty210 rfl ha13 Held.base rfl) (dq rfl (Qt.ldBA (us:=[_,_,_]) 0 ty210 rfl rfl rfl rfl) ?_)
    obtain ⟨x17,hx17,H⟩:=bindE H
    refine dq rfl (Qt.callR rfl h2 (fun w s=>s.ext) hx17 rfl ⟨_,_,rfl⟩) (dp rfl (Pu.bin rfl rfl rfl) (dp rfl (Pu.pickT rfl rfl) ?_))
    obtain rfl:=sj H
    exact hJ5 _ ⟨rfl,rfl,trivial⟩
   ·have H:=ifF hc4 H
    refine dn rfl (dn rfl (dn rfl (dn rfl (dn rfl (dn rfl (dn rfl (dn rfl (dp rfl (Pu.pickF rfl rfl) ?_))))))))
    obtain rfl:=sj H
    exact hJ5 _ ⟨rfl,rfl,trivial⟩
 ·intro z2 hz2 HX2 K4 hJ2
  refine T.block ?_
  refine T.loopA (γ:=Unit) hz2 [(0,_),(2,_),(4,_),(8,_)] (fun (v18,v19) _=>[(9,.int .i64 v18),(10,.int .i64 v19)]) (fun (v18,v19) _=>Sat w [blk b1 [.int .i64 a1_target.turn,.int .i64 a1_target.player,.slice p1 a1_target.commands.length c1] 210]) () ⟨rfl,rfl,rfl,rfl,trivial⟩ ⟨rfl,rfl,trivial⟩ (fun w s=>s) ?_
  rintro ⟨v18,v19⟩ ⟨⟩ y20 H hd2 KL2 hL2
  try dsimp only [Ex.then] at H
  refine cq [(9,_),(10,_),(0,_),(2,_),(4,_),(8,_)] ?_
  refine T.seq fun K6 hK6=>T.seq fun K7 hK7=>T.region (rM rfl (rM rfl (rp (Pu.bin rfl rfl rfl) (RS.nil (hK7 _ _ ?_)))))
  refine T.condP rfl (fun hc21=>?_) (fun hc21=>?_)
  ·have H:=ifT hc21 H
   refine T.skip (hK6 _ _ (cq [(0,_),(2,_),(4,_),(8,_),(9,_),(10,_)] ?_))
   refine T.block (T.seq fun K8 hK8=>T.region (rM rfl (rM rfl ?_)))
   obtain ⟨g22,H⟩:=gdE H
   refine rp (Pu.addS rfl rfl g22) (rp (Pu.convUW us3 ul80 rfl) ?_)
   obtain ⟨g23,H⟩:=gdE H
   refine rp (Pu.shr1 rfl rfl g23) ?_
   obtain ⟨g24,H⟩:=gdE H
   refine rp (Pu.convS us80 ul3 rfl g24) (rA rfl (RS.nil (hK8 _ _ (cq [(0,_),(2,_),(4,_),(8,_),(9,_),(10,_),(11,_)] ?_))))
   refine T.seq fun K9 hK9=>?_
   refine T.drawn (fun _=>True) [(0,.pu),(1,.pu),(2,.pu),(3,.pu),(4,.rd),(5,.rd),(6,.rd),(7,.pu)] mixed (ClE.sat _ _) (by kernel_rfl) ?_
   refine dp rfl (Pu.move rfl) (dp rfl (Pu.move rfl) (dp rfl (Pu.move rfl) ?_))
   obtain ⟨g25,H⟩:=gdE H
   obtain ⟨bl26,ol27,rfl⟩:=R_ptr h0 (ne_of_pos (pos_of g25))
   refine dp rfl (Pu.indexSl sl86 rfl rfl g25) ?_
   obtain ⟨c28,hc29,ha30⟩:=R_el (α:=Inp) h0 g25
   obtain ⟨u31,rfl,hu31⟩:=hc29
   obtain ⟨p32,cc33,rfl⟩:=R_form hu31
   refine dq rfl (Qt.ldZ (cs:=[_,_,_]) ty210 rfl ha30 Held.base rfl) (dq rfl (Qt.ldBA (us:=[_,_,_]) 0 ty210 rfl rfl rfl rfl) ?_)
   obtain ⟨x34,hx34,H⟩:=bindE H
   refine dq rfl (Qt.callR rfl h2 (fun w s=>s.ext) hx34 rfl ⟨_,_,rfl⟩) (dp rfl (Pu.bin rfl rfl rfl) (RD.nil (hK9 _ _ ?_)))
   refine T.condP rfl (fun hc35=>?_) (fun hc35=>?_)
   ·have H:=ifT hc35 H
    refine cq [(0,_),(2,_),(4,_),(8,_),(10,_),(11,_)] ?_
    refine T.region (rM rfl ?_)
    obtain ⟨g36,H⟩:=gdE H
    refine rp (Pu.addS rfl rfl g36) (rA rfl (RS.nil (hL2 _ _ (((((v18 + v19) % 18446744073709551616) / 2) + 1),v19) () H ⟨rfl,rfl,rfl,rfl,trivial⟩ ⟨rfl,rfl,trivial⟩ (fun w s=>s))))
   ·have H:=ifF hc35 H
    refine cq [(0,_),(2,_),(4,_),(8,_),(9,_),(11,_)] ?_
    refine T.region (rM rfl (rA rfl (RS.nil (hL2 _ _ (v18,(((v18 + v19) % 18446744073709551616) / 2)) () H ⟨rfl,rfl,rfl,rfl,trivial⟩ ⟨rfl,rfl,trivial⟩ (fun w s=>s)))))
  ·have H:=ifF hc21 H
   obtain rfl:=hd2 _ H
   refine T.xt (hJ2 _ _ v18 () HX2 ⟨rfl,rfl,rfl,rfl,trivial⟩ ⟨rfl,trivial⟩ (fun w s=>s))
theorem turns_In_walk (a0_l:List Inp) (a1_i:Inp) (w:World) {v0 v1:Value} (h0:R (hpOf w) a0_l [v0]) (h1:R (hpOf w) a1_i.commands [v1]) {r:List Inp × Bool} (H:turns_In a0_l a1_i = some r):Calls Tryz.prog 156 #[v0,.agg #[.int .i64 a1_i.turn,.int .i64 a1_i.player,v1]] w fun e w'=>∃ q1:(Option Nat × Nat),e = .returned (.tuple #[rowV q1 r.1.length,.bool r.2])∧Sat w [drow 210 (rowV q1 r.1.length) r.1] w':=by
 have hm0:=R_max h0
 obtain ⟨p0,c0,rfl⟩:=R_form h0
 have hm1:=R_max h1
 obtain ⟨p1,c1,rfl⟩:=R_form h1
 unfold turns_In at H
 refine T.enter (args:=[_,_]) (S:=Sat w []) Tryz.func156 rfl rfl (Sat.start w) ?_
 refine T.seq fun K1 hK1=>T.region (RS.solid (Sd.box (cs:=[_,_,_]) rfl rfl) rfl rfl fun b1=>rA rfl (rA rfl (RS.nil (hK1 _ _ (cq [(0,_),(3,_)] ?_)))))
 refine T.seq fun K2 hK2=>T.region (rM rfl (rq (Qt.ldBA (us:=[_,_,_]) 0 ty210 rfl rfl rfl rfl) ?_))
 obtain ⟨x2,hx2,H⟩:=bindE H
 refine rq (Qt.call (vs:=[.slice p0 a0_l.length c0,.agg #[.int .i64 a1_i.turn,.int .i64 a1_i.player,.slice p1 a1_i.commands.length c1],.func (.func 152) #[] #[]]) ent225 rfl fun w s=>slices_BinarySearchFuncI_walk a0_l a1_i (fun (y0,y1)=>turns_less y0 y1) w ((Rd.base h0) w s) ((Rd.base h1) w s) (⟨152,_,rfl,ent152,fun ⟨y0,y1⟩ c r w' ⟨_,_,hc⟩ he hr=>by subst hc; exact turns_less_walk y0 y1 w'  hr⟩) hx2) (rM rfl (rp (Pu.extract rfl rfl) (rp (Pu.extract rfl rfl) (rA rfl (rA rfl (RS.nil (hK2 _ _ (cq [(0,_),(3,_),(6,_),(7,_)] ?_))))))))
 refine T.seq fun K3 hK3=>T.seq fun K4 hK4=>T.region (rM rfl (RS.nil (hK4 _ _ ?_)))
 refine T.cond rfl (fun hc3=>?_) (fun hc3=>?_)
 ·have H:=ifT hc3 H
  refine cq [] ?_
  refine T.seq fun K5 hK5=>T.region (rA rfl (rA rfl (RS.nil (hK5 _ _ ?_))))
  obtain rfl:=sj H
  refine T.rt (Cont.ret2 rfl rfl rfl fun w' s=>?_)
  exact ⟨(none,0),rfl,(s.nilRowG (α:=Inp) 210).pick [1] (by decide) rfl⟩
 ·have H:=ifB hc3 H
  refine T.skip (hK3 _ _ ?_)
  refine T.seq fun K6 hK6=>?_
  refine T.drawnS [0] [(0,.pu),(2,.pu),(3,.wk),(1,.so),(4,.so),(5,.so),(6,.br),(7,.pu),(8,.pu)] mixed (by kernel_rfl) rfl ?_
  refine RD.p (fun w s=>s.pick [0] (by decide) rfl) rfl (Pu.move rfl) rfl rfl (RD.p (fun w s=>s.pick [0] (by decide) rfl) rfl (Pu.move rfl) rfl rfl ?_)
  refine RD.w (fun w s=>s.pick [0] (by decide) rfl) rfl (Qt.ldBA (us:=[_,_,_]) 0 ty210 rfl rfl rfl rfl) rfl rfl ?_
  obtain ⟨x4,hx4,H⟩:=bindE H
  refine RD.solid rfl (.inl rfl) rfl rfl (Sd.callN (vs:=[.slice p0 a0_l.length c0]) ent223 rfl (fun w s=>turns_OwnAll_walk a0_l w ((Rd.base h0) w s) hx4)) (fun _=>ClE.sat _ _) (fun _ w s=>s.pick [0] (by decide) rfl) (fun _ _ _ s=>s.drop1) fun q5=>?_
  obtain ⟨x6,hx6,H⟩:=bindE H
  refine RD.solid rfl (.inl rfl) rfl rfl (Sd.callN (vs:=[.agg #[.int .i64 a1_i.turn,.int .i64 a1_i.player,.slice p1 a1_i.commands.length c1]]) ent157 rfl (fun w s=>turns_Own_walk a1_i w ((Rd.base h1) w s) hx6)) (fun _=>ClE.sat _ _) (fun _ w s=>s.pick [0] (by decide) rfl) (fun _ _ _ s=>s.drop1) fun q7=>?_
  refine RD.solid rfl (.inl rfl) rfl rfl (Sd.litS (cs:=[_,_,_]) sl86 zr210 rfl rfl rfl rfl rfl) (fun _=>ClE.sat _ _) (fun _ w s=>s.pick [0] (by decide) rfl) (fun _ _ _ s=>s.drop1) fun b8=>?_
  obtain ⟨x9,hx9,H⟩:=bindE H
  refine RD.solid rfl (.inr rfl) rfl rfl (Sd.pre (fun w s=>(Sat.starAt 1 3 (Sat.litRowG (α:=Inp) (m:=1) 3 2 ([x6]:List Inp) (Sat.starAt 2 4 (Sat.starAt 2 5 ((s.noStars).noStars) rfl rfl (by decide)) rfl rfl (by decide)) rfl rfl (by decide) (by decide) rfl (DRF.cons' (α:=Inp) (x:=x6) (fun _ h=>⟨_,rfl,h⟩) DRF.nil')) rfl rfl (by decide))) (Sd.callM 1 ent226 rfl rfl (fun w s=>slices_InsertI_walk x4 x2.1 ([x6]:List Inp) rfl hx9 w s))) (fun _=>ClE.sat _ _) (fun _ w s=>s.pick [0] (by decide) rfl) (fun h=>nomatch h) fun q10=>?_
  refine RD.p (fun w s=>s.pick [0] (by decide) rfl) rfl (Pu.assign rfl) rfl rfl (RD.p (fun w s=>s.pick [0] (by decide) rfl) rfl (Pu.assign rfl) rfl rfl (RD.nil (hK6 _ _ (cq [(4,_),(5,_)] ?_))))
  obtain rfl:=sj H
  refine T.rt (Cont.ret2 rfl rfl rfl fun w' s=>?_)
  exact ⟨q10,rfl,s.pick [1] (by decide) rfl⟩
end Go.Proofs.YtmngdgclldkcfaaGreat
set_option linter.unusedVariables false
set_option linter.unusedSimpArgs false
set_option maxRecDepth 20000
set_option maxHeartbeats 4000000
namespace Go.Proofs.YtmngdgclldkcfaaGreat
open Go.Vg
open Enc (R)
theorem wire_Put_walk {w0:World} {F:Ch} (a0_b:List UInt8) (a1_n:Int) {q0:Option Nat × Nat} {m0:Nat} (hm:m0 = a0_b.length) {r:List UInt8} (H:wire_Put a0_b a1_n = some r) (w:World) (s:Sat w0 [rowM 5 (rowV q0 m0) a0_b,F] w):Calls Tryz.prog 274 #[rowV q0 m0,.int .i64 a1_n] w fun e w'=>∃ q:Option Nat × Nat,e = .returned (rowV q r.length)∧Sat w0 [rowM 5 (rowV q r.length) r,F] w':=by
 subst hm
 unfold wire_Put at H
 refine T.enter (args:=[_,_]) (S:=Sat w0 [rowM 5 (rowV q0 a0_b.length) a0_b,F]) Tryz.func274 rfl rfl (s) ?_
 refine T.seq fun K1 hK1=>T.region (rA rfl (RS.nil (hK1 _ _ ?_)))
 refine T.joinA (σ:=Int × List UInt8) (γ:=(Option Nat × Nat)) H (fun s=>s) [] trivial (fun (v2,v3) q4=>[(0,rowV q4 v3.length),(1,.int .i64 v2)]) (fun (v2,v3) q4=>Sat w0 [rowM 5 (rowV q4 v3.length) v3,F]) ?_ ?_
 ·rintro ⟨v2,v3⟩ q4 H
  try dsimp only [Ex.then] at H
  refine cq [(0,_),(1,_)] ?_
  refine T.seq fun K3 hK3=>T.region (rM rfl (rM rfl (rp (Pu.convB us3 ul5 rfl) (RS.solid (Sd.litS (cs:=[_]) sl22 zr5 rfl rfl rfl rfl rfl) rfl rfl fun b5=>?_))))
  obtain ⟨g7,H⟩:=gdE H
  refine RS.solid (Sd.app1M (α:=UInt8) 0 2 (UInt8.ofNat (v2 % 256).toNat) rfl rfl sl22 zr5 rfl rfl rfl rfl g7 (by decide)) rfl rfl fun q6=>rA rfl (RS.nil (hK3 _ _ (cq [(4,_)] ?_)))
  obtain rfl:=sj H
  refine T.rt (Cont.ret1 rfl rfl fun w' s=>?_)
  exact ⟨q6,rfl,s.pick [0,1] (by decide) rfl⟩
 ·intro z1 hz1 HX1 K2 hJ1
  refine T.block ?_
  refine T.loopA (γ:=(Option Nat × Nat)) hz1 [] (fun (v8,l9) q10=>[(0,rowV q10 l9.length),(1,.int .i64 v8)]) (fun (v8,l9) q10=>Sat w0 [rowM 5 (rowV q10 l9.length) l9,F]) q0 trivial ⟨rfl,rfl,trivial⟩ (fun w s=>s) ?_
  rintro ⟨v8,l9⟩ q10 y11 H hd1 KL1 hL1
  try dsimp only [Ex.then] at H
  refine cq [(0,_),(1,_)] ?_
  refine T.seq fun K4 hK4=>T.seq fun K5 hK5=>T.region (rM rfl (rp (Pu.bin rfl rfl rfl) (RS.nil (hK5 _ _ ?_))))
  refine T.condP rfl (fun hc12=>?_) (fun hc12=>?_)
  ·have H:=ifT hc12 H
   refine T.skip (hK4 _ _ ?_)
   refine T.seq fun K6 hK6=>T.block (T.region (rM rfl (rM rfl (rp (Pu.convB us3 ul5 rfl) (rp (Pu.orBc (q:=(128:UInt8)) rfl rfl (by decide)) (RS.solid (Sd.litS (cs:=[_]) sl22 zr5 rfl rfl rfl rfl rfl) rfl rfl fun b13=>?_))))))
   obtain ⟨g15,H⟩:=gdE H
   refine RS.solid (Sd.app1M (α:=UInt8) 0 2 ((UInt8.ofNat (v8 % 256).toNat) ||| (128:UInt8)) rfl rfl sl22 zr5 rfl rfl rfl rfl g15 (by decide)) rfl rfl fun q14=>rA rfl (RS.nil (hK6 _ _ (cq [(0,_),(1,_)] ?_)))
   refine T.region (rM rfl ?_)
   obtain ⟨g16,H⟩:=gdE H
   refine rp (Pu.shrV rfl rfl g16) (rA rfl (RS.nil (hL1 _ _ ((v8 / 2 ^ (7:Int).toNat),(l9 ++ [((UInt8.ofNat (v8 % 256).toNat) ||| (128:UInt8))])) q14 H trivial ⟨rfl,rfl,trivial⟩ (fun w s=>s.pick [0,1] (by decide) rfl))))
  ·have H:=ifF hc12 H
   obtain rfl:=hd1 _ H
   refine T.xt (hJ1 _ _ (v8,l9) q10 HX1 trivial ⟨rfl,rfl,trivial⟩ (fun w s=>s))
theorem wire_Int_walk (a0_n:Int) (w:World) {r:List UInt8 × Int} (H:wire_Int a0_n = some r):Calls Tryz.prog 277 #[.int .i64 a0_n] w fun e w'=>∃ q1:(Option Nat × Nat),e = .returned (.tuple #[rowV q1 r.1.length,.int .i64 r.2])∧Sat w [rowM 5 (rowV q1 r.1.length) r.1] w':=by
 unfold wire_Int at H
 refine T.enter (args:=[_]) (S:=Sat w []) Tryz.func277 rfl rfl (Sat.start w) ?_
 refine T.seq fun K1 hK1=>T.region (rA rfl (rA rfl (RS.nil (hK1 _ _ ?_))))
 refine T.seq fun K2 hK2=>T.block (T.seq fun K3 hK3=>T.region (rM rfl (rp (Pu.bin rfl rfl rfl) (rM rfl ?_))))
 refine RS.joinV 3 10 (.bool (decide ((a0_n < (-4611686018427387904)) ∨ (4611686018427387904 ≤ a0_n)))) [(0,_)] ⟨rfl,trivial⟩ ?_ ?_
 ·refine rA rfl (RS.nil (hK3 _ _ ?_))
  refine T.condP rfl (fun hc3=>?_) (fun hc3=>?_)
  ·have H:=ifT hc3 H
   refine cq [] ?_
   refine T.seq fun K4 hK4=>T.region (rA rfl (rA rfl (RS.nil (hK4 _ _ ?_))))
   obtain rfl:=sj H
   refine T.rt (Cont.ret2 rfl rfl rfl fun w' s=>?_)
   exact ⟨(none,0),rfl,(s.nilRowM (α:=UInt8) 5).pick [0] (by decide) rfl⟩
  ·have H:=ifF hc3 H
   refine T.seq fun K5 hK5=>T.region (rM rfl (rp (Pu.bin rfl rfl rfl) (rA rfl (RS.nil (hK5 _ _ ?_)))))
   refine T.condP rfl (fun hc4=>?_) (fun hc4=>?_)
   ·have H:=ifT hc4 H
    refine cq [(0,_)] ?_
    refine T.seq fun K6 hK6=>T.region (rM rfl ?_)
    obtain ⟨g5,H⟩:=gdE H
    refine rp (Pu.mulS rfl rfl g5) ?_
    obtain ⟨g6,H⟩:=gdE H
    refine rp (Pu.subS rfl rfl g6) ?_
    refine RS.weakS (fun w s=>(s.nilRowM (α:=UInt8) 5)) ?_
    obtain ⟨x7,hx7,H⟩:=bindE H
    refine RS.solid (Sd.callM (vs:=[rowV (none,0) 0,.int .i64 (((-2) * a0_n) - 1)]) 0 ent274 rfl rfl (fun w s=>wire_Put_walk [] (((-2) * a0_n) - 1) rfl  hx7 w s)) rfl rfl fun q8=>rA rfl (rA rfl (RS.nil (hK6 _ _ (cq [(2,_),(3,_)] ?_))))
    obtain rfl:=sj H
    refine T.rt (Cont.ret2 rfl rfl rfl fun w' s=>?_)
    exact ⟨q8,rfl,s.pick [0] (by decide) rfl⟩
   ·have H:=ifF hc4 H
    refine T.skip (hK2 _ _ (cq [(0,_)] ?_))
    refine T.seq fun K7 hK7=>T.region (rM rfl ?_)
    obtain ⟨g9,H⟩:=gdE H
    refine rp (Pu.mulS rfl rfl g9) ?_
    refine RS.weakS (fun w s=>(s.nilRowM (α:=UInt8) 5)) ?_
    obtain ⟨x10,hx10,H⟩:=bindE H
    refine RS.solid (Sd.callM (vs:=[rowV (none,0) 0,.int .i64 (2 * a0_n)]) 0 ent274 rfl rfl (fun w s=>wire_Put_walk [] (2 * a0_n) rfl  hx10 w s)) rfl rfl fun q11=>rA rfl (rA rfl (RS.nil (hK7 _ _ (cq [(2,_),(3,_)] ?_))))
    obtain rfl:=sj H
    refine T.rt (Cont.ret2 rfl rfl rfl fun w' s=>?_)
    exact ⟨q11,rfl,s.pick [0] (by decide) rfl⟩
 ·intro hJ2
  refine RS.splitP 7 rfl (fun hc1=>?_) (fun hc1=>?_)
  ·refine ro (ro (rp (Pu.pickT rfl rfl) ?_))
   exact hJ2 _ _ ⟨dOrT hc1,rfl,trivial⟩ (fun w s=>s)
  ·refine rM rfl (rp (Pu.bin rfl rfl rfl) (rp (Pu.pickF rfl rfl) ?_))
   exact hJ2 _ _ ⟨dOrF hc1,rfl,trivial⟩ (fun w s=>s)
theorem wire_Raw_walk (a0_b:List UInt8) (w:World) {v0:Value} (h0:R (hpOf w) a0_b [v0]) {r:List UInt8 × Int} (H:wire_Raw a0_b = some r):Calls Tryz.prog 275 #[v0] w fun e w'=>∃ q1:(Option Nat × Nat),e = .returned (.tuple #[rowV q1 r.1.length,.int .i64 r.2])∧Sat w [rowM 5 (rowV q1 r.1.length) r.1] w':=by
 have hm0:=R_max h0
 obtain ⟨p0,c0,rfl⟩:=R_form h0
 unfold wire_Raw at H
 refine T.enter (args:=[_]) (S:=Sat w []) Tryz.func275 rfl rfl (Sat.start w) ?_
 refine T.seq fun K1 hK1=>T.region (rA rfl (rA rfl (RS.nil (hK1 _ _ ?_))))
 refine T.seq fun K2 hK2=>T.seq fun K3 hK3=>T.region (rM rfl (rp (Pu.lenSl sl22 rfl) (rp (Pu.bin rfl rfl rfl) (RS.nil (hK3 _ _ ?_)))))
 refine T.condP rfl (fun hc1=>?_) (fun hc1=>?_)
 ·have H:=ifT hc1 H
  refine cq [] ?_
  refine T.seq fun K4 hK4=>T.region (rA rfl (rA rfl (RS.nil (hK4 _ _ ?_))))
  obtain rfl:=sj H
  refine T.rt (Cont.ret2 rfl rfl rfl fun w' s=>?_)
  exact ⟨(none,0),rfl,(s.nilRowM (α:=UInt8) 5).pick [0] (by decide) rfl⟩
 ·have H:=ifF hc1 H
  refine T.skip (hK2 _ _ (cq [(0,_)] ?_))
  refine T.seq fun K5 hK5=>T.region (rM rfl (rp (Pu.lenSl sl22 rfl) ?_))
  refine RS.weakS (fun w s=>(s.nilRowM (α:=UInt8) 5)) ?_
  obtain ⟨x2,hx2,H⟩:=bindE H
  refine RS.solid (Sd.callM (vs:=[rowV (none,0) 0,.int .i64 (a0_b.length:Int)]) 0 ent274 rfl rfl (fun w s=>wire_Put_walk [] (a0_b.length:Int) rfl  hx2 w s)) rfl rfl fun q3=>rM rfl ?_
  obtain ⟨g5,H⟩:=gdE H
  refine RS.solid (Sd.appRM (α:=UInt8) 0 rfl sl22 zr5 rfl rfl rfl (Rd.base h0) g5 (by decide)) rfl rfl fun q4=>rA rfl (rA rfl (RS.nil (hK5 _ _ (cq [(2,_),(3,_)] ?_))))
  obtain rfl:=sj H
  refine T.rt (Cont.ret2 rfl rfl rfl fun w' s=>?_)
  exact ⟨q4,rfl,s.pick [0] (by decide) rfl⟩
theorem fnv_Start_walk (w:World) {r:UInt64} (H:fnv_Start = some r):Calls Tryz.prog 231 #[] w fun e w'=>e = .returned (.int .u64 (r.toNat:Int))∧Ext w w':=by
 unfold fnv_Start at H
 refine T.enter (args:=[]) (S:=Sat w []) Tryz.func231 rfl rfl (Sat.start w) ?_
 refine T.seq fun K1 hK1=>T.region (rA rfl (RS.nil (hK1 _ _ ?_)))
 refine T.seq fun K2 hK2=>T.region (rA rfl (RS.nil (hK2 _ _ ?_)))
 obtain rfl:=sj H
 refine T.rt (Cont.ret1 rfl rfl fun w' s=>?_)
 exact ⟨rfl,s.ext⟩
theorem fnv_Sum_walk (a0_s:UInt64) (a1_b:List UInt8) (w:World) {v0:Value} (h0:R (hpOf w) a1_b [v0]) {r:UInt64} (H:fnv_Sum a0_s a1_b = some r):Calls Tryz.prog 230 #[.int .u64 a0_s.toNat,v0] w fun e w'=>e = .returned (.int .u64 (r.toNat:Int))∧Ext w w':=by
 have hm0:=R_max h0
 obtain ⟨p0,c0,rfl⟩:=R_form h0
 unfold fnv_Sum at H
 refine T.enter (args:=[_,_]) (S:=Sat w []) Tryz.func230 rfl rfl (Sat.start w) ?_
 refine T.seq fun K1 hK1=>T.region (rA rfl (RS.nil (hK1 _ _ ?_)))
 refine T.seq fun K2 hK2=>T.seq fun K3 hK3=>T.region (rM rfl (rp (Pu.lenSl sl22 rfl) (rM rfl (RS.nil (hK3 _ _ ?_)))))
 refine T.joinE (σ:=UInt64) (γ:=Unit) H (fun s=>s) [] trivial (fun v2 _=>[(0,.int .u64 (v2.toNat:Int))]) (fun v2 _=>Sat w []) ?_ ?_
 ·rintro v2 ⟨⟩ H
  try dsimp only [Ex.then] at H
  refine Cont.conseq (fr':=[(0,_)]) ?_ ⟨rfl,trivial⟩ (fun _ s=>s)
  refine id (hK2 _ _ ?_)
  refine T.seq fun K4 hK4=>T.region (rM rfl (rA rfl (RS.nil (hK4 _ _ ?_))))
  obtain rfl:=sj H
  refine T.rt (Cont.ret1 rfl rfl fun w' s=>?_)
  exact ⟨rfl,s.ext⟩
 ·intro z1 hz1 HX1 hJ1
  refine T.block ?_
  refine T.loopA (γ:=Unit) hz1 [(7,_),(8,_)] (fun (v3,v4) _=>[(0,.int .u64 (v3.toNat:Int)),(9,.int .i64 v4)]) (fun (v3,v4) _=>Sat w []) () ⟨rfl,rfl,trivial⟩ ⟨rfl,rfl,trivial⟩ (fun w s=>s) ?_
  rintro ⟨v3,v4⟩ ⟨⟩ y5 H hd1 KL1 hL1
  try dsimp only [Ex.then] at H
  refine cq [(0,_),(9,_),(7,_),(8,_)] ?_
  refine T.seq fun K5 hK5=>T.region (rp (Pu.bin rfl rfl rfl) (RS.nil (hK5 _ _ ?_)))
  refine T.seq fun K6 hK6=>?_
  refine T.condP rfl (fun hc6=>?_) (fun hc6=>?_)
  ·have H:=ifT hc6 H
   refine T.skip (hK6 _ _ ?_)
   refine T.seq fun K7 hK7=>T.block (T.seq fun K8 hK8=>T.region ?_)
   obtain ⟨g7,H⟩:=gdE H
   obtain ⟨bl8,ol9,rfl⟩:=R_ptr h0 (ne_of_pos (pos_of g7))
   refine rp (Pu.indexSl sl22 rfl rfl g7) (rq (Qt.ld0 (α:=UInt8) (Rd.base h0) ty5 rfl rfl g7 (by rintro _ _ rfl; rfl)) (rA rfl (RS.nil (hK8 _ _ (cq [(0,_),(6,_),(7,_),(8,_),(9,_)] ?_)))))
   refine T.region (rM rfl (rM rfl (rp (Pu.convBH us5 ul112 rfl) (rp (Pu.xorH (q:=(gi a1_b v4).toUInt64) rfl rfl) (rp (Pu.mulHc (q:=(1099511628211:UInt64)) rfl rfl (by decide)) (rA rfl (RS.nil (hK7 _ _ (cq [(0,_),(7,_),(8,_),(9,_)] ?_)))))))))
   refine T.region ?_
   obtain ⟨g10,H⟩:=gdE H
   refine rp (Pu.addS rfl rfl g10) (rM rfl (RS.nil (hL1 _ _ (((v3 ^^^ ((gi a1_b v4).toUInt64)) * (1099511628211:UInt64)),(v4 + 1)) () H ⟨rfl,rfl,trivial⟩ ⟨rfl,rfl,trivial⟩ (fun w s=>s))))
  ·have H:=ifF hc6 H
   obtain rfl:=hd1 _ H
   refine T.xt (hJ1 _ _ v3 () HX1 trivial ⟨rfl,trivial⟩ (fun w s=>s))
theorem fnv_Bytes_walk (a0_s:UInt64) (w:World) {r:List UInt8} (H:fnv_Bytes a0_s = some r):Calls Tryz.prog 309 #[.int .u64 a0_s.toNat] w fun e w'=>∃ q1:(Option Nat × Nat),e = .returned (rowV q1 r.length)∧Sat w [row nilH 5 (rowV q1 r.length) r] w':=by
 unfold fnv_Bytes at H
 refine T.enter (args:=[_]) (S:=Sat w []) Tryz.func309 rfl rfl (Sat.start w) ?_
 refine T.seq fun K1 hK1=>T.region (rA rfl (RS.nil (hK1 _ _ ?_)))
 refine T.seq fun K2 hK2=>T.seq fun K3 hK3=>T.region (rM rfl (RS.nil (hK3 _ _ ?_)))
 refine T.joinE (σ:=List UInt8) (γ:=(Option Nat × Nat)) H (fun s=>s) [] trivial (fun v2 q3=>[(2,rowV q3 v2.length)]) (fun v2 q3=>Sat w [row nilH 5 (rowV q3 v2.length) v2]) ?_ ?_
 ·rintro v2 q3 H
  try dsimp only [Ex.then] at H
  refine Cont.conseq (fr':=[(2,_)]) ?_ ⟨rfl,trivial⟩ (fun _ s=>s)
  refine id (hK2 _ _ ?_)
  refine T.seq fun K4 hK4=>T.region (rM rfl (rA rfl (RS.nil (hK4 _ _ ?_))))
  obtain rfl:=sj H
  refine T.rt (Cont.ret1 rfl rfl fun w' s=>?_)
  exact ⟨q3,rfl,s.pick [0] (by decide) rfl⟩
 ·intro z1 hz1 HX1 hJ1
  refine T.block ?_
  refine T.loopA (γ:=(Option Nat × Nat)) hz1 [] (fun (v4,l5,v7) q6=>[(0,.int .u64 (v4.toNat:Int)),(2,rowV q6 l5.length),(3,.int .i64 v7)]) (fun (v4,l5,v7) q6=>Sat w [row nilH 5 (rowV q6 l5.length) l5]) (none,0) trivial ⟨rfl,rfl,rfl,trivial⟩ (fun w s=>(s.nilRow (α:=UInt8) 5).pick [0] (by decide) rfl) ?_
  rintro ⟨v4,l5,v7⟩ q6 y8 H hd1 KL1 hL1
  try dsimp only [Ex.then] at H
  refine cq [(0,_),(2,_),(3,_)] ?_
  refine T.seq fun K5 hK5=>T.region (rp (Pu.bin rfl rfl rfl) (RS.nil (hK5 _ _ ?_)))
  refine T.seq fun K6 hK6=>?_
  refine T.condP rfl (fun hc9=>?_) (fun hc9=>?_)
  ·have H:=ifT hc9 H
   refine T.skip (hK6 _ _ ?_)
   refine T.seq fun K7 hK7=>T.block (T.seq fun K8 hK8=>T.region (rM rfl (rM rfl (rp (Pu.convB us112 ul5 rfl) (RS.solid (Sd.litS (cs:=[_]) sl22 zr5 rfl rfl rfl rfl rfl) rfl rfl fun b10=>?_)))))
   obtain ⟨g12,H⟩:=gdE H
   refine RS.solid (Sd.app1c (α:=UInt8) 0 1 (UInt8.ofNat ((v4.toNat:Int) % 256).toNat) rfl rfl (nilH_lt _) sl22 zr5 rfl rfl rfl rfl g12 (by decide)) rfl rfl fun q11=>rA rfl (RS.nil (hK8 _ _ (cq [(0,_),(2,_),(3,_)] ?_)))
   refine T.region (rM rfl (rp (Pu.shrHc (q:=(8:UInt64)) rfl rfl (by decide) (by decide)) (rA rfl (RS.nil (hK7 _ _ ?_)))))
   refine T.region ?_
   obtain ⟨g13,H⟩:=gdE H
   refine rp (Pu.addS rfl rfl g13) (rM rfl (RS.nil (hL1 _ _ ((v4 >>> (8:UInt64)),(l5 ++ [(UInt8.ofNat ((v4.toNat:Int) % 256).toNat)]),(v7 + 1)) q11 H trivial ⟨rfl,rfl,rfl,trivial⟩ (fun w s=>s.pick [0] (by decide) rfl))))
  ·have H:=ifF hc9 H
   obtain rfl:=hd1 _ H
   refine T.xt (hJ1 _ _ l5 q6 HX1 trivial ⟨rfl,trivial⟩ (fun w s=>s))
theorem mapcode_Lay_walk (a0_g:Grd) (w:World) {v0:Value} (h0:R (hpOf w) a0_g.tiles [v0]) {r:List UInt8} (H:mapcode_Lay a0_g = some r):Calls Tryz.prog 276 #[.agg #[.int .i64 a0_g.w,.int .i64 a0_g.h,v0]] w fun e w'=>∃ q1:(Option Nat × Nat),e = .returned (rowV q1 r.length)∧Sat w [rowM 5 (rowV q1 r.length) r] w':=by
 have hm0:=R_max h0
 obtain ⟨p0,c0,rfl⟩:=R_form h0
 unfold mapcode_Lay at H
 refine T.enter (args:=[_]) (S:=Sat w []) Tryz.func276 rfl rfl (Sat.start w) ?_
 refine T.seq fun K1 hK1=>T.region (RS.solid (Sd.box (cs:=[_,_,_]) rfl rfl) rfl rfl fun b1=>rA rfl (RS.nil (hK1 _ _ ?_)))
 refine T.seq fun K2 hK2=>?_
 refine T.drawnS [0] [(2,.pu),(3,.wk),(5,.pu),(6,.wk),(8,.pu),(9,.wk),(0,.so),(1,.br),(4,.br),(7,.br),(10,.br),(11,.pu)] mixed (by kernel_rfl) rfl ?_
 refine RD.p (fun w s=>s.pick [0] (by decide) rfl) rfl (Pu.fieldAddr fd24_0 rfl) rfl rfl ?_
 refine RD.w (fun w s=>s.pick [0] (by decide) rfl) rfl (Qt.ldB 0 ty3 rfl rfl rfl) rfl rfl ?_
 refine RD.p (fun w s=>s.pick [0] (by decide) rfl) rfl (Pu.fieldAddr fd24_1 rfl) rfl rfl ?_
 refine RD.w (fun w s=>s.pick [0] (by decide) rfl) rfl (Qt.ldB 0 ty3 rfl rfl rfl) rfl rfl ?_
 refine RD.p (fun w s=>s.pick [0] (by decide) rfl) rfl (Pu.fieldAddr fd24_2 rfl) rfl rfl ?_
 refine RD.w (fun w s=>s.pick [0] (by decide) rfl) rfl (Qt.ldB 0 ty22 rfl rfl rfl) rfl rfl ?_
 refine RD.solid rfl (.inl rfl) rfl rfl (Sd.litS (cs:=[_,_]) sl22 zr5 rfl rfl rfl rfl rfl) (fun _=>ClE.sat _ _) (fun _ w s=>s.pick [0] (by decide) rfl) (fun _ _ _ s=>s.drop1) fun b2=>?_
 refine RD.solid rfl (.inr rfl) rfl rfl (Sd.convM (α:=UInt8) 1 ([(84:UInt8),(71:UInt8)]:List UInt8) rfl usl22 u8_5 rfl rfl (by decide) ⟨[_],_,rfl,rfl,⟨[_],_,rfl,rfl,rfl⟩⟩) (fun _=>ClE.sat _ _) (fun _ w s=>s.pick [0] (by decide) rfl) (fun h=>nomatch h) fun _=>?_
 obtain ⟨x3,hx3,H⟩:=bindE H
 refine RD.know (fun w s=>(s.row_fitsM (q:=(some b2,2)) (m:=2) (k:=1) rfl)) fun hf4=>?_
 refine RD.solid rfl (.inr rfl) rfl rfl (Sd.callM 1 ent274 rfl rfl (fun w s=>wire_Put_walk ([(84:UInt8),(71:UInt8)]:List UInt8) a0_g.w hf4.1  hx3 w s)) (fun _=>ClE.sat _ _) (fun _ w s=>s.pick [0] (by decide) rfl) (fun h=>nomatch h) fun q5=>?_
 obtain ⟨x6,hx6,H⟩:=bindE H
 refine RD.solid rfl (.inr rfl) rfl rfl (Sd.callM 1 ent274 rfl rfl (fun w s=>wire_Put_walk x3 a0_g.h rfl  hx6 w s)) (fun _=>ClE.sat _ _) (fun _ w s=>s.pick [0] (by decide) rfl) (fun h=>nomatch h) fun q7=>?_
 obtain ⟨g9,H⟩:=gdE H
 refine RD.solid rfl (.inr rfl) rfl rfl (Sd.appRM (α:=UInt8) 1 rfl sl22 zr5 rfl rfl rfl (Rd.base h0) g9 (by decide)) (fun _=>ClE.sat _ _) (fun _ w s=>s.pick [0] (by decide) rfl) (fun h=>nomatch h) fun q8=>?_
 refine RD.p (fun w s=>s.pick [0] (by decide) rfl) rfl (Pu.assign rfl) rfl rfl (RD.nil (hK2 _ _ (cq [(3,_)] ?_)))
 refine T.seq fun K3 hK3=>T.region (rM rfl ?_)
 obtain ⟨x10,hx10,H⟩:=bindE H
 refine rq (Qt.call (vs:=[]) ent231 rfl fun w s=>fnv_Start_walk  w  hx10) (rM rfl ?_)
 obtain ⟨x11,hx11,H⟩:=bindE H
 refine rq (Qt.call (vs:=[.int .u64 (x10.toNat:Int),rowV q8 ((x6 ++ a0_g.tiles).length)]) ent230 rfl fun w s=>fnv_Sum_walk x10 (x6 ++ a0_g.tiles) w ((Rd.ofRowM 1 rfl) w s) hx11) ?_
 obtain ⟨x12,hx12,H⟩:=bindE H
 refine RS.solid (Sd.callN (vs:=[.int .u64 (x11.toNat:Int)]) ent309 rfl (fun w s=>fnv_Bytes_walk x11 w  hx12)) rfl rfl fun q13=>?_
 obtain ⟨g15,H⟩:=gdE H
 refine RS.solid (Sd.appRM (α:=UInt8) 1 rfl sl22 zr5 rfl rfl rfl (Rd.ofRowN 2 rfl) g15 (by decide)) rfl rfl fun q14=>rA rfl (RS.nil (hK3 _ _ (cq [(2,_)] ?_)))
 obtain rfl:=sj H
 refine T.rt (Cont.ret1 rfl rfl fun w' s=>?_)
 exact ⟨q14,rfl,s.pick [1] (by decide) rfl⟩
theorem image_lay_1_walk {w0:World} {F:Ch} (a0_l:List Int) (cv0:List UInt8) {gc:Nat} {q0:Option Nat × Nat} {v0:Value} (h0:Rd (Sat w0 [F]) a0_l [v0]) {r:List UInt8} (H:image_lay_1 a0_l cv0 = some r) (w:World) (s:Sat w0 [star (blk gc [rowV q0 cv0.length] 22) (rowM 5 (rowV q0 cv0.length) cv0),F] w):Calls Tryz.prog 273 #[v0,.pointer (some ⟨gc,0,none⟩)] w fun e w'=>∃ q:Option Nat × Nat,e = .returned (.tuple #[])∧Sat w0 [star (blk gc [rowV q r.length] 22) (rowM 5 (rowV q r.length) r),F] w':=by
 have hm0:=R_max (h0 w (s.pick [1] (by decide) rfl))
 obtain ⟨p0,c0,rfl⟩:=R_form (h0 w (s.pick [1] (by decide) rfl))
 unfold image_lay_1 at H
 refine T.enter (args:=[_,_]) (S:=Sat w0 [blk gc [rowV q0 cv0.length] 22,F,rowM 5 (rowV q0 cv0.length) cv0]) Tryz.func273 rfl rfl (s.unstarAt 0 rfl) ?_
 refine T.seq fun K1 hK1=>T.region (rM rfl (rp (Pu.lenSl sl35 rfl) (rM rfl (RS.nil (hK1 _ _ ?_)))))
 refine T.joinE (σ:=List UInt8) (γ:=(Option Nat × Nat)) H (fun s=>s) [] trivial (fun v2 q3=>[]) (fun v2 q3=>Sat w0 [blk gc [rowV q3 v2.length] 22,F,rowM 5 (rowV q3 v2.length) v2]) ?_ ?_
 ·rintro v2 q3 H
  try dsimp only [Ex.then] at H
  refine Cont.conseq (fr':=[]) ?_ trivial (fun _ s=>s)
  obtain rfl:=sj H
  refine id (Cont.end0 rfl fun w' s=>?_)
  exact ⟨q3,rfl,(Sat.starAt 0 2 s rfl rfl (by decide)).pick [0,1] (by decide) rfl⟩
 ·intro z1 hz1 HX1 hJ1
  refine T.block ?_
  refine T.loopA (γ:=(Option Nat × Nat)) hz1 [(1,_),(5,_),(6,_)] (fun (v4,l5) q6=>[(7,.int .i64 v4)]) (fun (v4,l5) q6=>Sat w0 [blk gc [rowV q6 l5.length] 22,F,rowM 5 (rowV q6 l5.length) l5]) q0 ⟨rfl,rfl,rfl,trivial⟩ ⟨rfl,trivial⟩ (fun w s=>s) ?_
  rintro ⟨v4,l5⟩ q6 y7 H hd1 KL1 hL1
  try dsimp only [Ex.then] at H
  refine cq [(7,_),(1,_),(5,_),(6,_)] ?_
  refine T.seq fun K2 hK2=>T.region (rp (Pu.bin rfl rfl rfl) (RS.nil (hK2 _ _ ?_)))
  refine T.seq fun K3 hK3=>?_
  refine T.condP rfl (fun hc8=>?_) (fun hc8=>?_)
  ·have H:=ifT hc8 H
   refine T.skip (hK3 _ _ ?_)
   refine T.seq fun K4 hK4=>T.block (T.seq fun K5 hK5=>T.region ?_)
   obtain ⟨g9,H⟩:=gdE H
   refine RS.know (p:=∃ bl ol,p0 = some ⟨bl,ol,none⟩) (fun w s=>R_ptr (h0 w (s.pick [1] (by decide) rfl)) (ne_of_pos (pos_of g9))) ?_
   rintro ⟨bl10,ol11,rfl⟩
   refine rp (Pu.indexSl sl35 rfl rfl g9) (rq (Qt.ld0 (α:=Int) (Rd.ofFrame 1 rfl h0) ty3 rfl rfl g9 (by rintro _ _ rfl; rfl)) (rA rfl (RS.nil (hK5 _ _ (cq [(1,_),(4,_),(5,_),(6,_),(7,_)] ?_)))))
   refine T.region (rq (Qt.ldB 0 ty22 rfl rfl rfl) (rM rfl ?_))
   obtain ⟨x12,hx12,H⟩:=bindE H
   refine RS.solid (Sd.callM 2 ent274 rfl rfl (fun w s=>wire_Put_walk l5 (gi a0_l v4) rfl  hx12 w s)) rfl rfl fun q13=>RS.solid (Sd.stB (cs':=[_]) 0 ty22 rfl rfl rfl rfl rfl rfl rfl rfl) rfl rfl fun _=>RS.nil (hK4 _ _ (cq [(1,_),(5,_),(6,_),(7,_)] ?_))
   refine T.region ?_
   obtain ⟨g14,H⟩:=gdE H
   refine rp (Pu.addS rfl rfl g14) (rM rfl (RS.nil (hL1 _ _ ((v4 + 1),x12) q13 H ⟨rfl,rfl,rfl,trivial⟩ ⟨rfl,trivial⟩ (fun w s=>s))))
  ·have H:=ifF hc8 H
   obtain rfl:=hd1 _ H
   refine T.xt (hJ1 _ _ l5 q6 HX1 trivial trivial (fun w s=>s))
theorem image_lay_walk (a0_w:Wld) (w:World) {v0 v1 v2:Value} (h0:R (hpOf w) a0_w.g.tiles [v0]) (h1:R (hpOf w) a0_w.bs [v1]) (h2:R (hpOf w) a0_w.us [v2]) {r:List UInt8} (H:image_lay a0_w = some r):Calls Tryz.prog 232 #[.agg #[.int .i64 a0_w.tick,.int .i64 a0_w.players,.int .i64 a0_w.nextid,.int .i64 a0_w.g.w,.int .i64 a0_w.g.h,v0,v1,v2]] w fun e w'=>∃ q1:(Option Nat × Nat),e = .returned (rowV q1 r.length)∧Sat w [rowM 5 (rowV q1 r.length) r] w':=by
 have hm0:=R_max h0
 obtain ⟨p0,c0,rfl⟩:=R_form h0
 have hm1:=R_max h1
 obtain ⟨p1,c1,rfl⟩:=R_form h1
 have hm2:=R_max h2
 obtain ⟨p2,c2,rfl⟩:=R_form h2
 unfold image_lay at H
 refine T.enter (args:=[_]) (S:=Sat w []) Tryz.func232 rfl rfl (Sat.start w) ?_
 refine T.seq fun K1 hK1=>T.region (RS.solid (Sd.box (cs:=[_,_,_,_,_,_,_,_]) rfl rfl) rfl rfl fun b1=>rA rfl (RS.nil (hK1 _ _ ?_)))
 refine T.seq fun K2 hK2=>T.region (RS.solid (Sd.litS (cs:=[_,_]) sl22 zr5 rfl rfl rfl rfl rfl) rfl rfl fun b2=>RS.solid (Sd.convM (α:=UInt8) 1 ([(84:UInt8),(87:UInt8)]:List UInt8) rfl usl22 u8_5 rfl rfl (by decide) ⟨[_],_,rfl,rfl,⟨[_],_,rfl,rfl,rfl⟩⟩) rfl rfl fun _=>RS.solid (Sd.alloc zr22 rfl) rfl rfl fun b3=>RS.solid (Sd.stB (cs':=[_]) 2 ty22 rfl rfl rfl rfl rfl rfl rfl rfl) rfl rfl fun _=>RS.nil (hK2 _ _ (cq [(1,_),(3,_)] ?_)))
 refine T.seq fun K3 hK3=>T.region (rp (Pu.makeFunc rfl) (rA rfl (RS.nil (hK3 _ _ ?_))))
 refine T.seq fun K4 hK4=>T.region (rM rfl (rp (Pu.fieldAddr fd52_0 rfl) (rq (Qt.ldB 0 ty3 rfl rfl rfl) (rp (Pu.fieldAddr fd52_1 rfl) (rq (Qt.ldB 0 ty3 rfl rfl rfl) (rp (Pu.fieldAddr fd52_2 rfl) (rq (Qt.ldB 0 ty3 rfl rfl rfl) (RS.solid (Sd.litS (cs:=[_,_,_]) sl35 zr3 rfl rfl rfl rfl rfl) rfl rfl fun b4=>?_))))))))
 refine RS.weakS (fun w s=>s.litRow (α:=Int) (n:=3) 3 [a0_w.tick,a0_w.players,a0_w.nextid] rfl (by decide) rfl ⟨[_],_,rfl,rfl,⟨[_],_,rfl,rfl,⟨[_],_,rfl,rfl,rfl⟩⟩⟩) ?_
 obtain ⟨x5,hx5,H⟩:=bindE H
 refine RS.weakS (S':=Sat w [blk b1 [.int .i64 a0_w.tick,.int .i64 a0_w.players,.int .i64 a0_w.nextid,.int .i64 a0_w.g.w,.int .i64 a0_w.g.h,.slice p0 a0_w.g.tiles.length c0,.slice p1 a0_w.bs.length c1,.slice p2 a0_w.us.length c2] 52,rowM 5 (rowV (some b2,2) 2) ([(84:UInt8),(87:UInt8)]:List UInt8),blk b3 [rowV (some b2,2) 2] 22,row nilH 3 (rowV (some b4,3) 3) [a0_w.tick,a0_w.players,a0_w.nextid]]) (fun w s=>s) ?_
 refine RS.solid (Sd.pre (fun w s=>(Sat.starAt 2 1 (Sat.cellB 2 (Sat.relenM (q:=(some b2,2)) (m:=2) 1 s rfl) rfl (congrArg (fun z=>[rowV (some b2,2) z]) (s.row_fitsM (q:=(some b2,2)) (m:=2) (k:=1) rfl).1)) rfl rfl (by decide))) (Sd.callMV (ι:=Option Nat × Nat) (C':=fun q=>star (blk b3 [rowV q x5.length] 22) (rowM 5 (rowV q x5.length) x5)) (val:=fun _=>.tuple #[]) (vs:=[rowV (some b4,3) 3]) (cs:=[.pointer (some ⟨b3,0,none⟩)]) 2 ent273 rfl rfl rfl (fun w s=>image_lay_1_walk [a0_w.tick,a0_w.players,a0_w.nextid] ([(84:UInt8),(87:UInt8)]:List UInt8) (v0:=rowV (some b4,3) 3) (Rd.rest 3 rfl (by decide) (Rd.ofRowN 0 rfl)) hx5 w s))) rfl rfl fun q6=>?_
 refine RS.weakS (S':=Sat w [blk b1 [.int .i64 a0_w.tick,.int .i64 a0_w.players,.int .i64 a0_w.nextid,.int .i64 a0_w.g.w,.int .i64 a0_w.g.h,.slice p0 a0_w.g.tiles.length c0,.slice p1 a0_w.bs.length c1,.slice p2 a0_w.us.length c2] 52,dead,blk b3 [rowV q6 x5.length] 22,row nilH 3 (rowV (some b4,3) 3) [a0_w.tick,a0_w.players,a0_w.nextid],rowM 5 (rowV q6 x5.length) x5]) (fun w s=>s.unstarAt 2 rfl) ?_
 refine RS.nil (hK4 _ _ (cq [(1,_),(3,_),(4,_)] ?_))
 refine T.seq fun K5 hK5=>T.region (rp (Pu.fieldAddr fd52_3 rfl) (rq (Qt.ldBA (us:=[_,_,_]) 0 ty24 rfl rfl rfl rfl) ?_))
 obtain ⟨x7,hx7,H⟩:=bindE H
 refine RS.solid (Sd.callN (vs:=[.agg #[.int .i64 a0_w.g.w,.int .i64 a0_w.g.h,.slice p0 a0_w.g.tiles.length c0]]) ent276 rfl (fun w s=>mapcode_Lay_walk a0_w.g w ((Rd.base h0) w s) hx7)) rfl rfl fun q8=>?_
 obtain ⟨x9,hx9,H⟩:=bindE H
 refine RS.solid (Sd.callN (vs:=[rowV q8 x7.length]) ent275 rfl (fun w s=>wire_Raw_walk x7 w ((Rd.ofRowM 5 rfl) w s) hx9)) rfl rfl fun q10=>rM rfl (rp (Pu.extract rfl rfl) (rp (Pu.extract rfl rfl) (rA rfl (rA rfl (RS.nil (hK5 _ _ (cq [(1,_),(3,_),(4,_),(5,_)] ?_)))))))
 refine T.seq fun K6 hK6=>?_
 try dsimp only [List.set,List.cons_append,List.nil_append]
 refine T.region (rq (Qt.ldB 2 ty22 rfl rfl rfl) (rM rfl ?_))
 obtain ⟨g12,H⟩:=gdE H
 refine RS.solid (Sd.appRM (α:=UInt8) 4 rfl sl22 zr5 rfl rfl rfl (Rd.ofRowM 6 rfl) g12 (by decide)) rfl rfl fun q11=>RS.solid (Sd.stB (cs':=[_]) 2 ty22 rfl rfl rfl rfl rfl rfl rfl rfl) rfl rfl fun _=>RS.nil (hK6 _ _ (cq [(1,_),(3,_),(4,_)] ?_))
 refine T.seq fun K7 hK7=>?_
 try dsimp only [List.set,List.cons_append,List.nil_append]
 refine T.region (rM rfl (rp (Pu.fieldAddr fd52_4 rfl) (rq (Qt.ldB 0 ty49 rfl rfl rfl) (rp (Pu.lenSl sl49 rfl) (RS.solid (Sd.litS (cs:=[_]) sl35 zr3 rfl rfl rfl rfl rfl) rfl rfl fun b13=>?_)))))
 refine RS.weakS (fun w s=>s.litRow (α:=Int) (n:=1) 7 [(a0_w.bs.length:Int)] rfl (by decide) rfl ⟨[_],_,rfl,rfl,rfl⟩) ?_
 obtain ⟨x14,hx14,H⟩:=bindE H
 refine RS.weakS (S':=Sat w [blk b1 [.int .i64 a0_w.tick,.int .i64 a0_w.players,.int .i64 a0_w.nextid,.int .i64 a0_w.g.w,.int .i64 a0_w.g.h,.slice p0 a0_w.g.tiles.length c0,.slice p1 a0_w.bs.length c1,.slice p2 a0_w.us.length c2] 52,dead,blk b3 [rowV q11 ((x5 ++ x9.1).length)] 22,row nilH 3 (rowV (some b4,3) 3) [a0_w.tick,a0_w.players,a0_w.nextid],rowM 5 (rowV q11 ((x5 ++ x9.1).length)) (x5 ++ x9.1),rowM 5 (rowV q8 x7.length) x7,rowM 5 (rowV q10 x9.1.length) x9.1,row nilH 3 (rowV (some b13,1) 1) [(a0_w.bs.length:Int)]]) (fun w s=>s) ?_
 refine RS.solid (Sd.pre (fun w s=>(Sat.starAt 2 4 s rfl rfl (by decide))) (Sd.callMV (ι:=Option Nat × Nat) (C':=fun q=>star (blk b3 [rowV q x14.length] 22) (rowM 5 (rowV q x14.length) x14)) (val:=fun _=>.tuple #[]) (vs:=[rowV (some b13,1) 1]) (cs:=[.pointer (some ⟨b3,0,none⟩)]) 2 ent273 rfl rfl rfl (fun w s=>image_lay_1_walk [(a0_w.bs.length:Int)] (x5 ++ x9.1) (v0:=rowV (some b13,1) 1) (Rd.rest 7 rfl (by decide) (Rd.ofRowN 0 rfl)) hx14 w s))) rfl rfl fun q15=>?_
 refine RS.weakS (S':=Sat w [blk b1 [.int .i64 a0_w.tick,.int .i64 a0_w.players,.int .i64 a0_w.nextid,.int .i64 a0_w.g.w,.int .i64 a0_w.g.h,.slice p0 a0_w.g.tiles.length c0,.slice p1 a0_w.bs.length c1,.slice p2 a0_w.us.length c2] 52,dead,blk b3 [rowV q15 x14.length] 22,row nilH 3 (rowV (some b4,3) 3) [a0_w.tick,a0_w.players,a0_w.nextid],dead,rowM 5 (rowV q8 x7.length) x7,rowM 5 (rowV q10 x9.1.length) x9.1,row nilH 3 (rowV (some b13,1) 1) [(a0_w.bs.length:Int)],rowM 5 (rowV q15 x14.length) x14]) (fun w s=>s.unstarAt 2 rfl) ?_
 refine RS.nil (hK7 _ _ (cq [(1,_),(3,_),(4,_)] ?_))
 refine T.seq fun K8 hK8=>T.seq fun K9 hK9=>?_
 try dsimp only [List.set,List.cons_append,List.nil_append]
 refine T.region (rp (Pu.fieldAddr fd52_4 rfl) (rq (Qt.ldB 0 ty49 rfl rfl rfl) (rp (Pu.lenSl sl49 rfl) (rM rfl (RS.nil (hK9 _ _ ?_))))))
 refine T.joinE (σ:=List UInt8) (γ:=(Option Nat × Nat)) H (fun s=>s) [(1,_),(3,_),(4,_)] ⟨rfl,rfl,rfl,trivial⟩ (fun v17 q18=>[]) (fun v17 q18=>Sat w [blk b1 [.int .i64 a0_w.tick,.int .i64 a0_w.players,.int .i64 a0_w.nextid,.int .i64 a0_w.g.w,.int .i64 a0_w.g.h,.slice p0 a0_w.g.tiles.length c0,.slice p1 a0_w.bs.length c1,.slice p2 a0_w.us.length c2] 52,dead,blk b3 [rowV q18 v17.length] 22,row nilH 3 (rowV (some b4,3) 3) [a0_w.tick,a0_w.players,a0_w.nextid],dead,rowM 5 (rowV q8 x7.length) x7,rowM 5 (rowV q10 x9.1.length) x9.1,row nilH 3 (rowV (some b13,1) 1) [(a0_w.bs.length:Int)],rowM 5 (rowV q18 v17.length) v17]) ?_ ?_
 ·rintro v17 q18 H
  try dsimp only [Ex.then] at H
  refine Cont.conseq (fr':=[(1,_),(3,_),(4,_)]) ?_ ⟨rfl,rfl,rfl,trivial⟩ (fun _ s=>s)
  refine id (hK8 _ _ ?_)
  refine T.seq fun K10 hK10=>?_
  try dsimp only [List.set,List.cons_append,List.nil_append]
  refine T.region (rM rfl (rp (Pu.fieldAddr fd52_5 rfl) (rq (Qt.ldB 0 ty50 rfl rfl rfl) (rp (Pu.lenSl sl50 rfl) (RS.solid (Sd.litS (cs:=[_]) sl35 zr3 rfl rfl rfl rfl rfl) rfl rfl fun b19=>?_)))))
  refine RS.weakS (fun w s=>s.litRow (α:=Int) (n:=1) 9 [(a0_w.us.length:Int)] rfl (by decide) rfl ⟨[_],_,rfl,rfl,rfl⟩) ?_
  obtain ⟨x20,hx20,H⟩:=bindE H
  refine RS.weakS (S':=Sat w [blk b1 [.int .i64 a0_w.tick,.int .i64 a0_w.players,.int .i64 a0_w.nextid,.int .i64 a0_w.g.w,.int .i64 a0_w.g.h,.slice p0 a0_w.g.tiles.length c0,.slice p1 a0_w.bs.length c1,.slice p2 a0_w.us.length c2] 52,dead,blk b3 [rowV q18 v17.length] 22,row nilH 3 (rowV (some b4,3) 3) [a0_w.tick,a0_w.players,a0_w.nextid],dead,rowM 5 (rowV q8 x7.length) x7,rowM 5 (rowV q10 x9.1.length) x9.1,row nilH 3 (rowV (some b13,1) 1) [(a0_w.bs.length:Int)],rowM 5 (rowV q18 v17.length) v17,row nilH 3 (rowV (some b19,1) 1) [(a0_w.us.length:Int)]]) (fun w s=>s) ?_
  refine RS.solid (Sd.pre (fun w s=>(Sat.starAt 2 8 s rfl rfl (by decide))) (Sd.callMV (ι:=Option Nat × Nat) (C':=fun q=>star (blk b3 [rowV q x20.length] 22) (rowM 5 (rowV q x20.length) x20)) (val:=fun _=>.tuple #[]) (vs:=[rowV (some b19,1) 1]) (cs:=[.pointer (some ⟨b3,0,none⟩)]) 2 ent273 rfl rfl rfl (fun w s=>image_lay_1_walk [(a0_w.us.length:Int)] v17 (v0:=rowV (some b19,1) 1) (Rd.rest 9 rfl (by decide) (Rd.ofRowN 0 rfl)) hx20 w s))) rfl rfl fun q21=>?_
  refine RS.weakS (S':=Sat w [blk b1 [.int .i64 a0_w.tick,.int .i64 a0_w.players,.int .i64 a0_w.nextid,.int .i64 a0_w.g.w,.int .i64 a0_w.g.h,.slice p0 a0_w.g.tiles.length c0,.slice p1 a0_w.bs.length c1,.slice p2 a0_w.us.length c2] 52,dead,blk b3 [rowV q21 x20.length] 22,row nilH 3 (rowV (some b4,3) 3) [a0_w.tick,a0_w.players,a0_w.nextid],dead,rowM 5 (rowV q8 x7.length) x7,rowM 5 (rowV q10 x9.1.length) x9.1,row nilH 3 (rowV (some b13,1) 1) [(a0_w.bs.length:Int)],dead,row nilH 3 (rowV (some b19,1) 1) [(a0_w.us.length:Int)],rowM 5 (rowV q21 x20.length) x20]) (fun w s=>s.unstarAt 2 rfl) ?_
  refine RS.nil (hK10 _ _ (cq [(1,_),(3,_),(4,_)] ?_))
  refine T.seq fun K11 hK11=>T.seq fun K12 hK12=>?_
  try dsimp only [List.set,List.cons_append,List.nil_append]
  refine T.region (rp (Pu.fieldAddr fd52_5 rfl) (rq (Qt.ldB 0 ty50 rfl rfl rfl) (rp (Pu.lenSl sl50 rfl) (rM rfl (RS.nil (hK12 _ _ ?_))))))
  refine T.joinE (σ:=List UInt8) (γ:=(Option Nat × Nat)) H (fun s=>s) [(3,_)] ⟨rfl,trivial⟩ (fun v23 q24=>[]) (fun v23 q24=>Sat w [blk b1 [.int .i64 a0_w.tick,.int .i64 a0_w.players,.int .i64 a0_w.nextid,.int .i64 a0_w.g.w,.int .i64 a0_w.g.h,.slice p0 a0_w.g.tiles.length c0,.slice p1 a0_w.bs.length c1,.slice p2 a0_w.us.length c2] 52,dead,blk b3 [rowV q24 v23.length] 22,row nilH 3 (rowV (some b4,3) 3) [a0_w.tick,a0_w.players,a0_w.nextid],dead,rowM 5 (rowV q8 x7.length) x7,rowM 5 (rowV q10 x9.1.length) x9.1,row nilH 3 (rowV (some b13,1) 1) [(a0_w.bs.length:Int)],dead,row nilH 3 (rowV (some b19,1) 1) [(a0_w.us.length:Int)],rowM 5 (rowV q24 v23.length) v23]) ?_ ?_
  ·rintro v23 q24 H
   try dsimp only [Ex.then] at H
   refine Cont.conseq (fr':=[(3,_)]) ?_ ⟨rfl,trivial⟩ (fun _ s=>s)
   refine id (hK11 _ _ ?_)
   refine T.seq fun K13 hK13=>?_
   try dsimp only [List.set,List.cons_append,List.nil_append]
   refine T.region (rq (Qt.ldB 2 ty22 rfl rfl rfl) (rA rfl (RS.nil (hK13 _ _ ?_))))
   obtain rfl:=sj H
   try dsimp only [List.set,List.cons_append,List.nil_append]
   refine T.rt (Cont.ret1 rfl rfl fun w' s=>?_)
   exact ⟨q24,rfl,s.pick [10] (by decide) rfl⟩
  ·intro z22 hz22 HX22 hJ22
   refine T.block ?_
   refine T.loopA (γ:=(Option Nat × Nat)) hz22 [(3,_),(4,_),(73,_),(74,_)] (fun (v25,l26) q27=>[(75,.int .i64 v25)]) (fun (v25,l26) q27=>Sat w [blk b1 [.int .i64 a0_w.tick,.int .i64 a0_w.players,.int .i64 a0_w.nextid,.int .i64 a0_w.g.w,.int .i64 a0_w.g.h,.slice p0 a0_w.g.tiles.length c0,.slice p1 a0_w.bs.length c1,.slice p2 a0_w.us.length c2] 52,dead,blk b3 [rowV q27 l26.length] 22,row nilH 3 (rowV (some b4,3) 3) [a0_w.tick,a0_w.players,a0_w.nextid],dead,rowM 5 (rowV q8 x7.length) x7,rowM 5 (rowV q10 x9.1.length) x9.1,row nilH 3 (rowV (some b13,1) 1) [(a0_w.bs.length:Int)],dead,row nilH 3 (rowV (some b19,1) 1) [(a0_w.us.length:Int)],rowM 5 (rowV q27 l26.length) l26]) q21 ⟨rfl,rfl,rfl,rfl,trivial⟩ ⟨rfl,trivial⟩ (fun w s=>s) ?_
   rintro ⟨v25,l26⟩ q27 y28 H hd22 KL22 hL22
   try dsimp only [Ex.then] at H
   refine cq [(75,_),(3,_),(4,_),(73,_),(74,_)] ?_
   refine T.seq fun K14 hK14=>T.region (rp (Pu.bin rfl rfl rfl) (RS.nil (hK14 _ _ ?_)))
   refine T.seq fun K15 hK15=>?_
   refine T.condP rfl (fun hc29=>?_) (fun hc29=>?_)
   ·have H:=ifT hc29 H
    refine T.skip (hK15 _ _ ?_)
    refine T.seq fun K16 hK16=>T.block (T.seq fun K17 hK17=>?_)
    try dsimp only [List.set,List.cons_append,List.nil_append]
    refine T.region ?_
    obtain ⟨g30,H⟩:=gdE H
    obtain ⟨bl31,ol32,rfl⟩:=R_ptr h2 (ne_of_pos (pos_of g30))
    refine rp (Pu.indexSl sl50 rfl rfl g30) (rq (Qt.ldW (α:=Unt) (cs:=[_,_,_,_,_,_,_,_,_,_]) (Rd.base h2) ty54 rfl rfl g30 rfl (by rintro _ _ rfl; rfl)) (RS.solid (Sd.alloc zr54 rfl) rfl rfl fun b33=>RS.solid (Sd.stB (cs':=[_,_,_,_,_,_,_,_,_,_]) 11 ty54 rfl rfl rfl rfl rfl rfl rfl rfl) rfl rfl fun _=>RS.nil (hK17 _ _ (cq [(3,_),(4,_),(10,_),(73,_),(74,_),(75,_)] ?_))))
    refine T.seq fun K18 hK18=>?_
    try dsimp only [List.set,List.cons_append,List.nil_append]
    refine T.region (rM rfl (rp (Pu.fieldAddr fd54_0 rfl) (rq (Qt.ldB 11 ty3 rfl rfl rfl) (rp (Pu.fieldAddr fd54_1 rfl) (rq (Qt.ldB 11 ty3 rfl rfl rfl) (rp (Pu.fieldAddr fd54_2 rfl) (rq (Qt.ldB 11 ty3 rfl rfl rfl) (RS.solid (Sd.litS (cs:=[_,_,_]) sl35 zr3 rfl rfl rfl rfl rfl) rfl rfl fun b34=>?_))))))))
    refine RS.weakS (fun w s=>s.litRow (α:=Int) (n:=3) 12 [(gi a0_w.us v25).id,(gi a0_w.us v25).owner,(gi a0_w.us v25).kind] rfl (by decide) rfl ⟨[_],_,rfl,rfl,⟨[_],_,rfl,rfl,⟨[_],_,rfl,rfl,rfl⟩⟩⟩) ?_
    obtain ⟨x35,hx35,H⟩:=bindE H
    refine RS.weakS (S':=Sat w [blk b1 [.int .i64 a0_w.tick,.int .i64 a0_w.players,.int .i64 a0_w.nextid,.int .i64 a0_w.g.w,.int .i64 a0_w.g.h,.slice p0 a0_w.g.tiles.length c0,.slice p1 a0_w.bs.length c1,.slice (some ⟨bl31,ol32,none⟩) a0_w.us.length c2] 52,dead,blk b3 [rowV q27 l26.length] 22,row nilH 3 (rowV (some b4,3) 3) [a0_w.tick,a0_w.players,a0_w.nextid],dead,rowM 5 (rowV q8 x7.length) x7,rowM 5 (rowV q10 x9.1.length) x9.1,row nilH 3 (rowV (some b13,1) 1) [(a0_w.bs.length:Int)],dead,row nilH 3 (rowV (some b19,1) 1) [(a0_w.us.length:Int)],rowM 5 (rowV q27 l26.length) l26,blk b33 [.int .i64 (gi a0_w.us v25).id,.int .i64 (gi a0_w.us v25).owner,.int .i64 (gi a0_w.us v25).kind,.int .i64 (((gi a0_w.us v25).pos).x),.int .i64 (((gi a0_w.us v25).pos).y),.int .i64 (gi a0_w.us v25).goal,.int .i64 (gi a0_w.us v25).next,.int .i64 (gi a0_w.us v25).stuck,.int .i64 (gi a0_w.us v25).inn,.int .i64 (gi a0_w.us v25).state] 54,row nilH 3 (rowV (some b34,3) 3) [(gi a0_w.us v25).id,(gi a0_w.us v25).owner,(gi a0_w.us v25).kind]]) (fun w s=>s) ?_
    refine RS.solid (Sd.pre (fun w s=>(Sat.starAt 2 10 s rfl rfl (by decide))) (Sd.callMV (ι:=Option Nat × Nat) (C':=fun q=>star (blk b3 [rowV q x35.length] 22) (rowM 5 (rowV q x35.length) x35)) (val:=fun _=>.tuple #[]) (vs:=[rowV (some b34,3) 3]) (cs:=[.pointer (some ⟨b3,0,none⟩)]) 2 ent273 rfl rfl rfl (fun w s=>image_lay_1_walk [(gi a0_w.us v25).id,(gi a0_w.us v25).owner,(gi a0_w.us v25).kind] l26 (v0:=rowV (some b34,3) 3) (Rd.rest 12 rfl (by decide) (Rd.ofRowN 0 rfl)) hx35 w s))) rfl rfl fun q36=>?_
    refine RS.weakS (S':=Sat w [blk b1 [.int .i64 a0_w.tick,.int .i64 a0_w.players,.int .i64 a0_w.nextid,.int .i64 a0_w.g.w,.int .i64 a0_w.g.h,.slice p0 a0_w.g.tiles.length c0,.slice p1 a0_w.bs.length c1,.slice (some ⟨bl31,ol32,none⟩) a0_w.us.length c2] 52,dead,blk b3 [rowV q36 x35.length] 22,row nilH 3 (rowV (some b4,3) 3) [a0_w.tick,a0_w.players,a0_w.nextid],dead,rowM 5 (rowV q8 x7.length) x7,rowM 5 (rowV q10 x9.1.length) x9.1,row nilH 3 (rowV (some b13,1) 1) [(a0_w.bs.length:Int)],dead,row nilH 3 (rowV (some b19,1) 1) [(a0_w.us.length:Int)],dead,blk b33 [.int .i64 (gi a0_w.us v25).id,.int .i64 (gi a0_w.us v25).owner,.int .i64 (gi a0_w.us v25).kind,.int .i64 (((gi a0_w.us v25).pos).x),.int .i64 (((gi a0_w.us v25).pos).y),.int .i64 (gi a0_w.us v25).goal,.int .i64 (gi a0_w.us v25).next,.int .i64 (gi a0_w.us v25).stuck,.int .i64 (gi a0_w.us v25).inn,.int .i64 (gi a0_w.us v25).state] 54,row nilH 3 (rowV (some b34,3) 3) [(gi a0_w.us v25).id,(gi a0_w.us v25).owner,(gi a0_w.us v25).kind],rowM 5 (rowV q36 x35.length) x35]) (fun w s=>s.unstarAt 2 rfl) ?_
    refine RS.nil (hK18 _ _ (cq [(3,_),(4,_),(10,_),(73,_),(74,_),(75,_)] ?_))
    refine T.seq fun K19 hK19=>T.seq fun K20 hK20=>?_
    try dsimp only [List.set,List.cons_append,List.nil_append]
    refine T.region (rp (Pu.fieldAddr fd54_3 rfl) (rp (Pu.fieldAddr fd33_0 rfl) (rq (Qt.ldB 11 ty2 rfl rfl rfl) (rp (Pu.fieldAddr fd54_3 rfl) (rp (Pu.fieldAddr fd33_1 rfl) (rq (Qt.ldB 11 ty2 rfl rfl rfl) (RS.solid (Sd.litS (cs:=[_,_]) sl356 zr2 rfl rfl rfl rfl rfl) rfl rfl fun b37=>?_)))))))
    refine RS.weakS (fun w s=>s.litRow (α:=Int) (n:=2) 14 [((gi a0_w.us v25).pos).x,((gi a0_w.us v25).pos).y] rfl (by decide) rfl ⟨[_],_,rfl,rfl,⟨[_],_,rfl,rfl,rfl⟩⟩) ?_
    refine rp (Pu.lenSl sl356 rfl) (rM rfl (RS.nil (hK20 _ _ (cq [(3,_),(4,_),(10,_),(73,_),(74,_),(75,_),(94,_),(95,_),(96,_)] ?_))))
    refine T.joinE (σ:=List UInt8) (γ:=(Option Nat × Nat)) H (fun s=>s) [(3,_),(4,_),(10,_),(73,_),(74,_),(75,_)] ⟨rfl,rfl,rfl,rfl,rfl,rfl,trivial⟩ (fun v39 q40=>[]) (fun v39 q40=>Sat w [blk b1 [.int .i64 a0_w.tick,.int .i64 a0_w.players,.int .i64 a0_w.nextid,.int .i64 a0_w.g.w,.int .i64 a0_w.g.h,.slice p0 a0_w.g.tiles.length c0,.slice p1 a0_w.bs.length c1,.slice (some ⟨bl31,ol32,none⟩) a0_w.us.length c2] 52,dead,blk b3 [rowV q40 v39.length] 22,row nilH 3 (rowV (some b4,3) 3) [a0_w.tick,a0_w.players,a0_w.nextid],dead,rowM 5 (rowV q8 x7.length) x7,rowM 5 (rowV q10 x9.1.length) x9.1,row nilH 3 (rowV (some b13,1) 1) [(a0_w.bs.length:Int)],dead,row nilH 3 (rowV (some b19,1) 1) [(a0_w.us.length:Int)],dead,blk b33 [.int .i64 (gi a0_w.us v25).id,.int .i64 (gi a0_w.us v25).owner,.int .i64 (gi a0_w.us v25).kind,.int .i64 (((gi a0_w.us v25).pos).x),.int .i64 (((gi a0_w.us v25).pos).y),.int .i64 (gi a0_w.us v25).goal,.int .i64 (gi a0_w.us v25).next,.int .i64 (gi a0_w.us v25).stuck,.int .i64 (gi a0_w.us v25).inn,.int .i64 (gi a0_w.us v25).state] 54,row nilH 3 (rowV (some b34,3) 3) [(gi a0_w.us v25).id,(gi a0_w.us v25).owner,(gi a0_w.us v25).kind],rowM 5 (rowV q40 v39.length) v39,row nilH 2 (rowV (some b37,2) 2) [((gi a0_w.us v25).pos).x,((gi a0_w.us v25).pos).y]]) ?_ ?_
    ·rintro v39 q40 H
     try dsimp only [Ex.then] at H
     refine Cont.conseq (fr':=[(3,_),(4,_),(10,_),(73,_),(74,_),(75,_)]) ?_ ⟨rfl,rfl,rfl,rfl,rfl,rfl,trivial⟩ (fun _ s=>s)
     refine id (hK19 _ _ ?_)
     try dsimp only [List.set,List.cons_append,List.nil_append]
     refine T.region (rM rfl (rp (Pu.fieldAddr fd54_4 rfl) (rq (Qt.ldB 11 ty3 rfl rfl rfl) ?_)))
     obtain ⟨g41,H⟩:=gdE H
     refine rp (Pu.addS rfl rfl g41) (rp (Pu.fieldAddr fd54_5 rfl) (rq (Qt.ldB 11 ty3 rfl rfl rfl) ?_))
     obtain ⟨g42,H⟩:=gdE H
     refine rp (Pu.addS rfl rfl g42) (rp (Pu.fieldAddr fd54_6 rfl) (rq (Qt.ldB 11 ty3 rfl rfl rfl) (rp (Pu.fieldAddr fd54_7 rfl) (rq (Qt.ldB 11 ty3 rfl rfl rfl) (rp (Pu.fieldAddr fd54_8 rfl) (rq (Qt.ldB 11 ty3 rfl rfl rfl) (RS.solid (Sd.litS (cs:=[_,_,_,_,_]) sl35 zr3 rfl rfl rfl rfl rfl) rfl rfl fun b43=>?_)))))))
     refine RS.weakS (fun w s=>s.litRow (α:=Int) (n:=5) 15 [((gi a0_w.us v25).goal + 1),((gi a0_w.us v25).next + 1),(gi a0_w.us v25).stuck,(gi a0_w.us v25).inn,(gi a0_w.us v25).state] rfl (by decide) rfl ⟨[_],_,rfl,rfl,⟨[_],_,rfl,rfl,⟨[_],_,rfl,rfl,⟨[_],_,rfl,rfl,⟨[_],_,rfl,rfl,rfl⟩⟩⟩⟩⟩) ?_
     obtain ⟨x44,hx44,H⟩:=bindE H
     refine RS.weakS (S':=Sat w [blk b1 [.int .i64 a0_w.tick,.int .i64 a0_w.players,.int .i64 a0_w.nextid,.int .i64 a0_w.g.w,.int .i64 a0_w.g.h,.slice p0 a0_w.g.tiles.length c0,.slice p1 a0_w.bs.length c1,.slice (some ⟨bl31,ol32,none⟩) a0_w.us.length c2] 52,dead,blk b3 [rowV q40 v39.length] 22,row nilH 3 (rowV (some b4,3) 3) [a0_w.tick,a0_w.players,a0_w.nextid],dead,rowM 5 (rowV q8 x7.length) x7,rowM 5 (rowV q10 x9.1.length) x9.1,row nilH 3 (rowV (some b13,1) 1) [(a0_w.bs.length:Int)],dead,row nilH 3 (rowV (some b19,1) 1) [(a0_w.us.length:Int)],dead,blk b33 [.int .i64 (gi a0_w.us v25).id,.int .i64 (gi a0_w.us v25).owner,.int .i64 (gi a0_w.us v25).kind,.int .i64 (((gi a0_w.us v25).pos).x),.int .i64 (((gi a0_w.us v25).pos).y),.int .i64 (gi a0_w.us v25).goal,.int .i64 (gi a0_w.us v25).next,.int .i64 (gi a0_w.us v25).stuck,.int .i64 (gi a0_w.us v25).inn,.int .i64 (gi a0_w.us v25).state] 54,row nilH 3 (rowV (some b34,3) 3) [(gi a0_w.us v25).id,(gi a0_w.us v25).owner,(gi a0_w.us v25).kind],rowM 5 (rowV q40 v39.length) v39,row nilH 2 (rowV (some b37,2) 2) [((gi a0_w.us v25).pos).x,((gi a0_w.us v25).pos).y],row nilH 3 (rowV (some b43,5) 5) [((gi a0_w.us v25).goal + 1),((gi a0_w.us v25).next + 1),(gi a0_w.us v25).stuck,(gi a0_w.us v25).inn,(gi a0_w.us v25).state]]) (fun w s=>s) ?_
     refine RS.solid (Sd.pre (fun w s=>(Sat.starAt 2 13 s rfl rfl (by decide))) (Sd.callMV (ι:=Option Nat × Nat) (C':=fun q=>star (blk b3 [rowV q x44.length] 22) (rowM 5 (rowV q x44.length) x44)) (val:=fun _=>.tuple #[]) (vs:=[rowV (some b43,5) 5]) (cs:=[.pointer (some ⟨b3,0,none⟩)]) 2 ent273 rfl rfl rfl (fun w s=>image_lay_1_walk [((gi a0_w.us v25).goal + 1),((gi a0_w.us v25).next + 1),(gi a0_w.us v25).stuck,(gi a0_w.us v25).inn,(gi a0_w.us v25).state] v39 (v0:=rowV (some b43,5) 5) (Rd.rest 15 rfl (by decide) (Rd.ofRowN 0 rfl)) hx44 w s))) rfl rfl fun q45=>?_
     refine RS.weakS (S':=Sat w [blk b1 [.int .i64 a0_w.tick,.int .i64 a0_w.players,.int .i64 a0_w.nextid,.int .i64 a0_w.g.w,.int .i64 a0_w.g.h,.slice p0 a0_w.g.tiles.length c0,.slice p1 a0_w.bs.length c1,.slice (some ⟨bl31,ol32,none⟩) a0_w.us.length c2] 52,dead,blk b3 [rowV q45 x44.length] 22,row nilH 3 (rowV (some b4,3) 3) [a0_w.tick,a0_w.players,a0_w.nextid],dead,rowM 5 (rowV q8 x7.length) x7,rowM 5 (rowV q10 x9.1.length) x9.1,row nilH 3 (rowV (some b13,1) 1) [(a0_w.bs.length:Int)],dead,row nilH 3 (rowV (some b19,1) 1) [(a0_w.us.length:Int)],dead,blk b33 [.int .i64 (gi a0_w.us v25).id,.int .i64 (gi a0_w.us v25).owner,.int .i64 (gi a0_w.us v25).kind,.int .i64 (((gi a0_w.us v25).pos).x),.int .i64 (((gi a0_w.us v25).pos).y),.int .i64 (gi a0_w.us v25).goal,.int .i64 (gi a0_w.us v25).next,.int .i64 (gi a0_w.us v25).stuck,.int .i64 (gi a0_w.us v25).inn,.int .i64 (gi a0_w.us v25).state] 54,row nilH 3 (rowV (some b34,3) 3) [(gi a0_w.us v25).id,(gi a0_w.us v25).owner,(gi a0_w.us v25).kind],dead,row nilH 2 (rowV (some b37,2) 2) [((gi a0_w.us v25).pos).x,((gi a0_w.us v25).pos).y],row nilH 3 (rowV (some b43,5) 5) [((gi a0_w.us v25).goal + 1),((gi a0_w.us v25).next + 1),(gi a0_w.us v25).stuck,(gi a0_w.us v25).inn,(gi a0_w.us v25).state],rowM 5 (rowV q45 x44.length) x44]) (fun w s=>s.unstarAt 2 rfl) ?_
     refine RS.nil (hK16 _ _ (cq [(3,_),(4,_),(73,_),(74,_),(75,_)] ?_))
     try dsimp only [List.set,List.cons_append,List.nil_append]
     refine T.region ?_
     obtain ⟨g46,H⟩:=gdE H
     refine rp (Pu.addS rfl rfl g46) (rM rfl (RS.nil (hL22 _ _ ((v25 + 1),x44) q45 H ⟨rfl,rfl,rfl,rfl,trivial⟩ ⟨rfl,trivial⟩ (fun w s=>s.pick [0,1,2,3,4,5,6,7,8,9,16] (by decide) rfl))))
    ·intro z38 hz38 HX38 hJ38
     refine T.block ?_
     refine T.loopA (γ:=(Option Nat × Nat)) hz38 [(3,_),(4,_),(10,_),(73,_),(74,_),(75,_),(94,_),(95,_)] (fun (v47,l48) q49=>[(96,.int .i64 v47)]) (fun (v47,l48) q49=>Sat w [blk b1 [.int .i64 a0_w.tick,.int .i64 a0_w.players,.int .i64 a0_w.nextid,.int .i64 a0_w.g.w,.int .i64 a0_w.g.h,.slice p0 a0_w.g.tiles.length c0,.slice p1 a0_w.bs.length c1,.slice (some ⟨bl31,ol32,none⟩) a0_w.us.length c2] 52,dead,blk b3 [rowV q49 l48.length] 22,row nilH 3 (rowV (some b4,3) 3) [a0_w.tick,a0_w.players,a0_w.nextid],dead,rowM 5 (rowV q8 x7.length) x7,rowM 5 (rowV q10 x9.1.length) x9.1,row nilH 3 (rowV (some b13,1) 1) [(a0_w.bs.length:Int)],dead,row nilH 3 (rowV (some b19,1) 1) [(a0_w.us.length:Int)],dead,blk b33 [.int .i64 (gi a0_w.us v25).id,.int .i64 (gi a0_w.us v25).owner,.int .i64 (gi a0_w.us v25).kind,.int .i64 (((gi a0_w.us v25).pos).x),.int .i64 (((gi a0_w.us v25).pos).y),.int .i64 (gi a0_w.us v25).goal,.int .i64 (gi a0_w.us v25).next,.int .i64 (gi a0_w.us v25).stuck,.int .i64 (gi a0_w.us v25).inn,.int .i64 (gi a0_w.us v25).state] 54,row nilH 3 (rowV (some b34,3) 3) [(gi a0_w.us v25).id,(gi a0_w.us v25).owner,(gi a0_w.us v25).kind],rowM 5 (rowV q49 l48.length) l48,row nilH 2 (rowV (some b37,2) 2) [((gi a0_w.us v25).pos).x,((gi a0_w.us v25).pos).y]]) q36 ⟨rfl,rfl,rfl,rfl,rfl,rfl,rfl,rfl,trivial⟩ ⟨rfl,trivial⟩ (fun w s=>s) ?_
     rintro ⟨v47,l48⟩ q49 y50 H hd38 KL38 hL38
     try dsimp only [Ex.then] at H
     refine cq [(96,_),(3,_),(4,_),(10,_),(73,_),(74,_),(75,_),(94,_),(95,_)] ?_
     refine T.seq fun K21 hK21=>T.region (rp (Pu.bin rfl rfl rfl) (RS.nil (hK21 _ _ ?_)))
     refine T.seq fun K22 hK22=>?_
     refine T.condP rfl (fun hc51=>?_) (fun hc51=>?_)
     ·have H:=ifT hc51 H
      refine T.skip (hK22 _ _ ?_)
      refine T.seq fun K23 hK23=>T.block (T.seq fun K24 hK24=>?_)
      try dsimp only [List.set,List.cons_append,List.nil_append]
      refine T.region ?_
      obtain ⟨g52,H⟩:=gdE H
      refine RS.know (fun w s=>(s.row_fits (q:=(some b37,2)) (m:=2) (k:=14) rfl)) fun hf53=>?_
      refine rp (Pu.indexSl sl356 rfl rfl g52) (rq (Qt.ld0 (α:=Int) (Rd.ofRowN 14 rfl) ty2 rfl rfl (idx_of hf53.1 g52) (by rintro _ _ rfl; rfl)) (rA rfl (RS.nil (hK24 _ _ (cq [(3,_),(4,_),(10,_),(12,_),(73,_),(74,_),(75,_),(94,_),(95,_),(96,_)] ?_)))))
      refine T.seq fun K25 hK25=>?_
      try dsimp only [List.set,List.cons_append,List.nil_append]
      refine T.region (rM rfl ?_)
      obtain ⟨x54,hx54,H⟩:=bindE H
      refine RS.solid (Sd.callN (vs:=[.int .i64 (gi [((gi a0_w.us v25).pos).x,((gi a0_w.us v25).pos).y] v47)]) ent277 rfl (fun w s=>wire_Int_walk (gi [((gi a0_w.us v25).pos).x,((gi a0_w.us v25).pos).y] v47) w  hx54)) rfl rfl fun q55=>rM rfl (rp (Pu.extract rfl rfl) (rp (Pu.extract rfl rfl) (rA rfl (rA rfl (RS.nil (hK25 _ _ (cq [(3,_),(4,_),(10,_),(13,_),(73,_),(74,_),(75,_),(94,_),(95,_),(96,_)] ?_)))))))
      try dsimp only [List.set,List.cons_append,List.nil_append]
      refine T.region (rq (Qt.ldB 2 ty22 rfl rfl rfl) (rM rfl ?_))
      obtain ⟨g57,H⟩:=gdE H
      refine RS.solid (Sd.appRM (α:=UInt8) 13 rfl sl22 zr5 rfl rfl rfl (Rd.ofRowM 15 rfl) g57 (by decide)) rfl rfl fun q56=>RS.solid (Sd.stB (cs':=[_]) 2 ty22 rfl rfl rfl rfl rfl rfl rfl rfl) rfl rfl fun _=>RS.nil (hK23 _ _ (cq [(3,_),(4,_),(10,_),(73,_),(74,_),(75,_),(94,_),(95,_),(96,_)] ?_))
      try dsimp only [List.set,List.cons_append,List.nil_append]
      refine T.region ?_
      obtain ⟨g58,H⟩:=gdE H
      refine rp (Pu.addS rfl rfl g58) (rM rfl (RS.nil (hL38 _ _ ((v47 + 1),(l48 ++ x54.1)) q56 H ⟨rfl,rfl,rfl,rfl,rfl,rfl,rfl,rfl,trivial⟩ ⟨rfl,trivial⟩ (fun w s=>s.pick [0,1,2,3,4,5,6,7,8,9,10,11,12,13,14] (by decide) rfl))))
     ·have H:=ifF hc51 H
      obtain rfl:=hd38 _ H
      refine T.xt (hJ38 _ _ l48 q49 HX38 ⟨rfl,rfl,rfl,rfl,rfl,rfl,trivial⟩ trivial (fun w s=>s))
   ·have H:=ifF hc29 H
    obtain rfl:=hd22 _ H
    refine T.xt (hJ22 _ _ l26 q27 HX22 ⟨rfl,trivial⟩ trivial (fun w s=>s))
 ·intro z16 hz16 HX16 hJ16
  refine T.block ?_
  refine T.loopA (γ:=(Option Nat × Nat)) hz16 [(1,_),(3,_),(4,_),(44,_),(45,_)] (fun (v59,l60) q61=>[(46,.int .i64 v59)]) (fun (v59,l60) q61=>Sat w [blk b1 [.int .i64 a0_w.tick,.int .i64 a0_w.players,.int .i64 a0_w.nextid,.int .i64 a0_w.g.w,.int .i64 a0_w.g.h,.slice p0 a0_w.g.tiles.length c0,.slice p1 a0_w.bs.length c1,.slice p2 a0_w.us.length c2] 52,dead,blk b3 [rowV q61 l60.length] 22,row nilH 3 (rowV (some b4,3) 3) [a0_w.tick,a0_w.players,a0_w.nextid],dead,rowM 5 (rowV q8 x7.length) x7,rowM 5 (rowV q10 x9.1.length) x9.1,row nilH 3 (rowV (some b13,1) 1) [(a0_w.bs.length:Int)],rowM 5 (rowV q61 l60.length) l60]) q15 ⟨rfl,rfl,rfl,rfl,rfl,trivial⟩ ⟨rfl,trivial⟩ (fun w s=>s) ?_
  rintro ⟨v59,l60⟩ q61 y62 H hd16 KL16 hL16
  try dsimp only [Ex.then] at H
  refine cq [(46,_),(1,_),(3,_),(4,_),(44,_),(45,_)] ?_
  refine T.seq fun K26 hK26=>T.region (rp (Pu.bin rfl rfl rfl) (RS.nil (hK26 _ _ ?_)))
  refine T.seq fun K27 hK27=>?_
  refine T.condP rfl (fun hc63=>?_) (fun hc63=>?_)
  ·have H:=ifT hc63 H
   refine T.skip (hK27 _ _ ?_)
   refine T.seq fun K28 hK28=>T.block (T.seq fun K29 hK29=>?_)
   try dsimp only [List.set,List.cons_append,List.nil_append]
   refine T.region ?_
   obtain ⟨g64,H⟩:=gdE H
   obtain ⟨bl65,ol66,rfl⟩:=R_ptr h1 (ne_of_pos (pos_of g64))
   refine rp (Pu.indexSl sl49 rfl rfl g64) (rq (Qt.ldW (α:=Bld) (cs:=[_,_,_,_,_,_]) (Rd.base h1) ty135 rfl rfl g64 rfl (by rintro _ _ rfl; rfl)) (RS.solid (Sd.alloc zr135 rfl) rfl rfl fun b67=>RS.solid (Sd.stB (cs':=[_,_,_,_,_,_]) 9 ty135 rfl rfl rfl rfl rfl rfl rfl rfl) rfl rfl fun _=>RS.nil (hK29 _ _ (cq [(1,_),(3,_),(4,_),(8,_),(44,_),(45,_),(46,_)] ?_))))
   try dsimp only [List.set,List.cons_append,List.nil_append]
   refine T.region (rM rfl (rp (Pu.fieldAddr fd135_0 rfl) (rq (Qt.ldB 9 ty3 rfl rfl rfl) (rp (Pu.fieldAddr fd135_1 rfl) (rq (Qt.ldB 9 ty3 rfl rfl rfl) (rp (Pu.fieldAddr fd135_2 rfl) (rq (Qt.ldB 9 ty3 rfl rfl rfl) (rp (Pu.fieldAddr fd135_3 rfl) (rq (Qt.ldB 9 ty3 rfl rfl rfl) (rp (Pu.fieldAddr fd135_4 rfl) (rq (Qt.ldB 9 ty3 rfl rfl rfl) (rp (Pu.fieldAddr fd135_5 rfl) (rq (Qt.ldB 9 ty3 rfl rfl rfl) ?_)))))))))))))
   refine RS.solid (Sd.litS (cs:=[_,_,_,_,_,_]) sl35 zr3 rfl rfl rfl rfl rfl) rfl rfl fun b68=>?_
   refine RS.weakS (fun w s=>s.litRow (α:=Int) (n:=6) 10 [(gi a0_w.bs v59).id,(gi a0_w.bs v59).owner,(gi a0_w.bs v59).x,(gi a0_w.bs v59).y,(gi a0_w.bs v59).w,(gi a0_w.bs v59).h] rfl (by decide) rfl ⟨[_],_,rfl,rfl,⟨[_],_,rfl,rfl,⟨[_],_,rfl,rfl,⟨[_],_,rfl,rfl,⟨[_],_,rfl,rfl,⟨[_],_,rfl,rfl,rfl⟩⟩⟩⟩⟩⟩) ?_
   obtain ⟨x69,hx69,H⟩:=bindE H
   refine RS.weakS (S':=Sat w [blk b1 [.int .i64 a0_w.tick,.int .i64 a0_w.players,.int .i64 a0_w.nextid,.int .i64 a0_w.g.w,.int .i64 a0_w.g.h,.slice p0 a0_w.g.tiles.length c0,.slice (some ⟨bl65,ol66,none⟩) a0_w.bs.length c1,.slice p2 a0_w.us.length c2] 52,dead,blk b3 [rowV q61 l60.length] 22,row nilH 3 (rowV (some b4,3) 3) [a0_w.tick,a0_w.players,a0_w.nextid],dead,rowM 5 (rowV q8 x7.length) x7,rowM 5 (rowV q10 x9.1.length) x9.1,row nilH 3 (rowV (some b13,1) 1) [(a0_w.bs.length:Int)],rowM 5 (rowV q61 l60.length) l60,blk b67 [.int .i64 (gi a0_w.bs v59).id,.int .i64 (gi a0_w.bs v59).owner,.int .i64 (gi a0_w.bs v59).x,.int .i64 (gi a0_w.bs v59).y,.int .i64 (gi a0_w.bs v59).w,.int .i64 (gi a0_w.bs v59).h] 135,row nilH 3 (rowV (some b68,6) 6) [(gi a0_w.bs v59).id,(gi a0_w.bs v59).owner,(gi a0_w.bs v59).x,(gi a0_w.bs v59).y,(gi a0_w.bs v59).w,(gi a0_w.bs v59).h]]) (fun w s=>s) ?_
   refine RS.solid (Sd.pre (fun w s=>(Sat.starAt 2 8 s rfl rfl (by decide))) (Sd.callMV (ι:=Option Nat × Nat) (C':=fun q=>star (blk b3 [rowV q x69.length] 22) (rowM 5 (rowV q x69.length) x69)) (val:=fun _=>.tuple #[]) (vs:=[rowV (some b68,6) 6]) (cs:=[.pointer (some ⟨b3,0,none⟩)]) 2 ent273 rfl rfl rfl (fun w s=>image_lay_1_walk [(gi a0_w.bs v59).id,(gi a0_w.bs v59).owner,(gi a0_w.bs v59).x,(gi a0_w.bs v59).y,(gi a0_w.bs v59).w,(gi a0_w.bs v59).h] l60 (v0:=rowV (some b68,6) 6) (Rd.rest 10 rfl (by decide) (Rd.ofRowN 0 rfl)) hx69 w s))) rfl rfl fun q70=>?_
   refine RS.weakS (S':=Sat w [blk b1 [.int .i64 a0_w.tick,.int .i64 a0_w.players,.int .i64 a0_w.nextid,.int .i64 a0_w.g.w,.int .i64 a0_w.g.h,.slice p0 a0_w.g.tiles.length c0,.slice (some ⟨bl65,ol66,none⟩) a0_w.bs.length c1,.slice p2 a0_w.us.length c2] 52,dead,blk b3 [rowV q70 x69.length] 22,row nilH 3 (rowV (some b4,3) 3) [a0_w.tick,a0_w.players,a0_w.nextid],dead,rowM 5 (rowV q8 x7.length) x7,rowM 5 (rowV q10 x9.1.length) x9.1,row nilH 3 (rowV (some b13,1) 1) [(a0_w.bs.length:Int)],dead,blk b67 [.int .i64 (gi a0_w.bs v59).id,.int .i64 (gi a0_w.bs v59).owner,.int .i64 (gi a0_w.bs v59).x,.int .i64 (gi a0_w.bs v59).y,.int .i64 (gi a0_w.bs v59).w,.int .i64 (gi a0_w.bs v59).h] 135,row nilH 3 (rowV (some b68,6) 6) [(gi a0_w.bs v59).id,(gi a0_w.bs v59).owner,(gi a0_w.bs v59).x,(gi a0_w.bs v59).y,(gi a0_w.bs v59).w,(gi a0_w.bs v59).h],rowM 5 (rowV q70 x69.length) x69]) (fun w s=>s.unstarAt 2 rfl) ?_
   refine RS.nil (hK28 _ _ (cq [(1,_),(3,_),(4,_),(44,_),(45,_),(46,_)] ?_))
   try dsimp only [List.set,List.cons_append,List.nil_append]
   refine T.region ?_
   obtain ⟨g71,H⟩:=gdE H
   refine rp (Pu.addS rfl rfl g71) (rM rfl (RS.nil (hL16 _ _ ((v59 + 1),x69) q70 H ⟨rfl,rfl,rfl,rfl,rfl,trivial⟩ ⟨rfl,trivial⟩ (fun w s=>s.pick [0,1,2,3,4,5,6,7,11] (by decide) rfl))))
  ·have H:=ifF hc63 H
   obtain rfl:=hd16 _ H
   refine T.xt (hJ16 _ _ l60 q61 HX16 ⟨rfl,rfl,rfl,trivial⟩ trivial (fun w s=>s))
theorem image_Sum_walk (a0_w:Wld) (w:World) {v0 v1 v2:Value} (h0:R (hpOf w) a0_w.g.tiles [v0]) (h1:R (hpOf w) a0_w.bs [v1]) (h2:R (hpOf w) a0_w.us [v2]) {r:UInt64} (H:image_Sum a0_w = some r):Calls Tryz.prog 161 #[.agg #[.int .i64 a0_w.tick,.int .i64 a0_w.players,.int .i64 a0_w.nextid,.int .i64 a0_w.g.w,.int .i64 a0_w.g.h,v0,v1,v2]] w fun e w'=>e = .returned (.int .u64 (r.toNat:Int))∧Ext w w':=by
 have hm0:=R_max h0
 obtain ⟨p0,c0,rfl⟩:=R_form h0
 have hm1:=R_max h1
 obtain ⟨p1,c1,rfl⟩:=R_form h1
 have hm2:=R_max h2
 obtain ⟨p2,c2,rfl⟩:=R_form h2
 unfold image_Sum at H
 refine T.enter (args:=[_]) (S:=Sat w []) Tryz.func161 rfl rfl (Sat.start w) ?_
 refine T.seq fun K1 hK1=>T.region (RS.solid (Sd.box (cs:=[_,_,_,_,_,_,_,_]) rfl rfl) rfl rfl fun b1=>rA rfl (RS.nil (hK1 _ _ ?_)))
 refine T.seq fun K2 hK2=>?_
 refine T.drawn (fun _=>True) [(0,.rd),(1,.rd),(2,.so),(3,.rd),(4,.pu)] mixed (ClE.sat _ _) (by kernel_rfl) ?_
 obtain ⟨x2,hx2,H⟩:=bindE H
 refine dq rfl (Qt.call (vs:=[]) ent231 rfl fun w s=>fnv_Start_walk  w  hx2) (dq rfl (Qt.ldBA (us:=[_,_,_,_,_,_,_,_]) 0 ty52 rfl rfl rfl rfl) ?_)
 obtain ⟨x3,hx3,H⟩:=bindE H
 refine RD.solid rfl (.inl rfl) rfl rfl (Sd.callN (vs:=[.agg #[.int .i64 a0_w.tick,.int .i64 a0_w.players,.int .i64 a0_w.nextid,.int .i64 a0_w.g.w,.int .i64 a0_w.g.h,.slice p0 a0_w.g.tiles.length c0,.slice p1 a0_w.bs.length c1,.slice p2 a0_w.us.length c2]]) ent232 rfl (fun w s=>image_lay_walk a0_w w ((Rd.base h0) w s) ((Rd.base h1) w s) ((Rd.base h2) w s) hx3)) (fun _=>ClE.sat _ _) (fun _ _ _=>trivial) (fun _ _ _ s=>s.drop1) fun q4=>?_
 obtain ⟨x5,hx5,H⟩:=bindE H
 refine dq rfl (Qt.call (vs:=[.int .u64 (x2.toNat:Int),rowV q4 x3.length]) ent230 rfl fun w s=>fnv_Sum_walk x2 x3 w ((Rd.ofRowM 1 rfl) w s) hx5) (dp rfl (Pu.assign rfl) (RD.nil (hK2 _ _ (cq [(2,_)] ?_))))
 obtain rfl:=sj H
 refine T.rt (Cont.ret1 rfl rfl fun w' s=>?_)
 exact ⟨rfl,s.ext⟩
end Go.Proofs.YtmngdgclldkcfaaGreat
