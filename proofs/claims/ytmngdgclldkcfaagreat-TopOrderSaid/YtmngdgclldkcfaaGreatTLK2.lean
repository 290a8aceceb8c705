/-
  Walk of TopOrder.
-/
import Derived.Test.YtmngdgclldkcfaaGreatRows
import Derived.Test.YtmngdgclldkcfaaGreatJ6
import Derived.Test.YtmngdgclldkcfaaGreatJ7
import Derived.Test.YtmngdgclldkcfaaGreatJ23
set_option linter.unusedVariables false
set_option linter.unusedSimpArgs false
set_option maxRecDepth 20000
set_option maxHeartbeats 4000000
namespace Go.Proofs.YtmngdgclldkcfaaGreat
open Go.Vg
open Enc (R)
theorem ent10:Ent Tryz.prog 10:=en Tryz.func10
theorem ent13:Ent Tryz.prog 13:=en Tryz.func13
theorem ent8:Ent Tryz.prog 8:=en Tryz.func8
theorem ent9:Ent Tryz.prog 9:=en Tryz.func9
theorem throngtop_TopOrder_walk (a0_p:Scr30) (w:World) {v0 v1:Value} (h0:R (hpOf w) a0_p.g.tiles [v0]) (h1:R (hpOf w) a0_p.l [v1]) {r:Bool} (H:throngtop_TopOrder a0_p = some r):Calls Tryz.prog 3 #[.agg #[.int .i64 a0_p.g.w,.int .i64 a0_p.g.h,v0,.int .i64 a0_p.players,.int .i64 a0_p.delay,.int .i64 a0_p.room,v1]] w fun e w'=>e = .returned (.bool r)∧Ext w w':=by
 have hm0:=R_max h0
 obtain ⟨p0,c0,rfl⟩:=R_form h0
 have hm1:=R_max h1
 obtain ⟨p1,c1,rfl⟩:=R_form h1
 unfold throngtop_TopOrder at H
 refine te Tryz.func3 (Sat.start w) ?_
 refine T.seq fun _ k1=>T.region (RS.solid (Sd.box (cs:=[_,_,_,_,_,_,_]) rfl rfl) rfl rfl fun b1=>rA rfl (RS.nil (k1 _ _ ?_)))
 refine T.seq fun _ k2=>T.seq fun _ k3=>T.region (rq (Qt.ldBA (us:=[_,_,_,_,_,_,_]) 0 ty27.h rfl rfl rfl rfl) ?_)
 obtain ⟨x2,hx2,H⟩:=bindE H
 refine rq (Qt.call (vs:=[_]) ent8 rfl fun w s=>throngtop_may_walk a0_p w ((Rd.base h0) w s) ((Rd.base h1) w s) hx2) (au 2 ?_)
 refine RS.joinV 4 15 (.bool (decide (((!x2) = true) ∨ (a0_p.players < 2)))) [(1,_)] sb ?_ ?_
 ·refine rM rfl ?_
  refine RS.joinV 4 20 (.bool (decide ((((!x2) = true) ∨ (a0_p.players < 2)) ∨ (4 < a0_p.players)))) [(1,_)] sb ?_ ?_
  ·refine rM rfl ?_
   obtain ⟨g9,H⟩:=gdE H
   refine RS.joinV 7 28 (.bool (decide (((((!x2) = true) ∨ (a0_p.players < 2)) ∨ (4 < a0_p.players)) ∨ (¬ ((gi a0_p.g.tiles (0:Int)).toNat:Int) = 0)))) [(1,_)] sb ?_ ?_
   ·refine RS.nil (k3 _ _ ?_)
    refine T.cP H rfl (fun hc10 H=>?_) (fun hc10 H=>?_)
    ·refine au 2 ?_
     obtain rfl:=sj H
     refine T.rt (Cont.ret1 rfl rfl fun w' s=>?_)
     exact ⟨rfl,s.ext⟩
    refine T.skip (k2 _ _ ?_)
    refine au 2 ?_
    refine T.seq fun _ k6=>T.region (rM rfl (rp (Pu.build (cells:=[_,_,_,_,_]) st31 rfl rfl) (RS.solid (Sd.litS (cs:=[_,_,_,_,_]) sl25.h zr31 rfl rfl rfl rfl rfl) rfl rfl fun b11=>?_)))
    refine RS.weakS (fun w s=>(s.nilRowG (α:=Act) 31)) ?_
    obtain ⟨g13,H⟩:=gdE H
    refine RS.solid (Sd.pre (fun w s=>(Sat.starAt 5 3 (Sat.starAt 5 4 (((s.noStars).noStars).nilRowG (α:=Cmd) 37) rfl rfl (by decide)) rfl rfl (by decide))) (Sd.appL (α:=Act) 2 1 5 ([(⟨6,0,10,0,[]⟩:Act)]:List Act) rfl rfl rfl (DRF.cons' (α:=Act) (x:=(⟨6,0,10,0,[]⟩:Act)) (fun _ h=>⟨_,rfl,h⟩) DRF.nil') rfl sl25.h zr31 rfl rfl rfl rfl g13 (by decide))) rfl rfl fun q12=>rA rfl (RS.nil (k6 _ _ (kq [1,3] ?_)))
    refine T.seq fun _ k7=>au 4 ?_
    refine T.joinE (σ:=List Act) (γ:=(Option Nat × Nat)) H (fun s=>s) [(1,_)] sb (fun v15 q16=>[(3,rowV q16 v15.length)]) (fun v15 q16=>Sat w [blk b1 [.int .i64 a0_p.g.w,.int .i64 a0_p.g.h,.slice p0 a0_p.g.tiles.length c0,.int .i64 a0_p.players,.int .i64 a0_p.delay,.int .i64 a0_p.room,.slice p1 a0_p.l.length c1] 27,blk b11 [.int .i64 6,.int .i64 0,.int .i64 10,.int .i64 0,.slice none 0 0] 31,drow 31 (rowV q16 v15.length) v15,dead,dead,dead]) ?_ ?_
    ·rintro v15 q16 H
     try dsimp only [Ex.then] at H
     refine Cont.kq [3,1] ?_
     refine id (k7 _ _ ?_)
     refine T.seq fun _ k9=>T.region (rM rfl (rp (Pu.build (cells:=[_,_,_,_,_]) st31 rfl rfl) (RS.solid (Sd.litS (cs:=[_,_,_,_,_]) sl25.h zr31 rfl rfl rfl rfl rfl) rfl rfl fun b17=>?_)))
     obtain ⟨g19,H⟩:=gdE H
     refine RS.solid (Sd.pre (fun w s=>(Sat.starAt 9 7 (Sat.starAt 9 8 (((s.noStars).noStars).nilRowG (α:=Cmd) 37) rfl rfl (by decide)) rfl rfl (by decide))) (Sd.appL (α:=Act) 2 6 9 ([(⟨6,0,15,0,[]⟩:Act)]:List Act) rfl rfl rfl (DRF.cons' (α:=Act) (x:=(⟨6,0,15,0,[]⟩:Act)) (fun _ h=>⟨_,rfl,h⟩) DRF.nil') rfl sl25.h zr31 rfl rfl rfl rfl g19 (by decide))) rfl rfl fun q18=>rA rfl (RS.nil (k9 _ _ (kq [1,3] ?_)))
     refine T.seq fun _ k10=>nz ?_
     refine T.region (au 9 ?_)
     obtain ⟨x20,hx20,H⟩:=bindE H
     refine RS.solid (Sd.callN (vs:=[_,_,_,_,_]) ent11 rfl (fun w s=>session_Run_walk a0_p.g a0_p.players a0_p.delay a0_p.room (v15 ++ ([(⟨6,0,15,0,[]⟩:Act)]:List Act)) w ((Rd.base h0) w s) ((Rd.ofG 2 rfl) w s) hx20)) rfl rfl fun ⟨q21,q22,q23,q24,q25⟩=>?_
     refine au 3 ?_
     refine RS.solid (Sd.alloc zr44 rfl) rfl rfl fun b26=>au 2 ?_
     refine RS.nil (k10 _ _ (kq [1,5,6] ?_))
     refine T.seq fun _ k11=>T.seq fun _ k12=>nz ?_
     refine T.region (rM rfl ?_)
     obtain ⟨x27,hx27,H⟩:=bindE H
     refine rq (Qt.call (vs:=[_]) ent12 rfl fun w s=>throngtop_num_walk x20.2 w  hx27) (au 2 ?_)
     refine RS.joinV 7 87 (.bool (decide ((¬ x27 = 0) ∨ (¬ (x20.1.worlds.length:Int) = a0_p.players)))) [(1,_),(5,_)] sb ?_ ?_
     ·refine rM rfl ?_
      refine RS.joinV 7 95 (.bool (decide (((¬ x27 = 0) ∨ (¬ (x20.1.worlds.length:Int) = a0_p.players)) ∨ (¬ (x20.1.turns.length:Int) = a0_p.players)))) [(1,_),(5,_)] sb ?_ ?_
      ·refine rM rfl ?_
       refine RS.joinV 7 103 (.bool (decide ((((¬ x27 = 0) ∨ (¬ (x20.1.worlds.length:Int) = a0_p.players)) ∨ (¬ (x20.1.turns.length:Int) = a0_p.players)) ∨ (¬ (x20.1.splits.length:Int) = a0_p.players)))) [(1,_),(5,_)] sb ?_ ?_
       ·refine RS.nil (k12 _ _ ?_)
        refine T.cP H rfl (fun hc34 H=>?_) (fun hc34 H=>?_)
        ·refine kq [] ?_
         refine au 2 ?_
         obtain rfl:=sj H
         refine nz ?_
         refine T.rt (Cont.ret1 rfl rfl fun w' s=>?_)
         exact ⟨rfl,s.ext⟩
        refine T.skip (k11 _ _ ?_)
        refine T.seq fun _ k14=>au 2 ?_
        refine T.joinE (σ:=Unit) (γ:=Unit) H Ex.go [] trivial (fun _ _=>[]) (fun _ _=>Sat w [blk b1 [.int .i64 a0_p.g.w,.int .i64 a0_p.g.h,.slice p0 a0_p.g.tiles.length c0,.int .i64 a0_p.players,.int .i64 a0_p.delay,.int .i64 a0_p.room,.slice p1 a0_p.l.length c1] 27,blk b11 [.int .i64 6,.int .i64 0,.int .i64 10,.int .i64 0,.slice none 0 0] 31,drow 31 (rowV q18 ((v15 ++ ([(⟨6,0,15,0,[]⟩:Act)]:List Act)).length)) (v15 ++ ([(⟨6,0,15,0,[]⟩:Act)]:List Act)),dead,dead,dead,blk b17 [.int .i64 6,.int .i64 0,.int .i64 15,.int .i64 0,.slice none 0 0] 31,dead,dead,dead,row nilH 3 (rowV q21 x20.1.turns.length) x20.1.turns,drow 87 (rowV q22 x20.1.hashes.length) x20.1.hashes,drow 52 (rowV q23 x20.1.worlds.length) x20.1.worlds,row nilH 4 (rowV q24 x20.1.splits.length) x20.1.splits,drow 200 (rowV q25 x20.1.log.length) x20.1.log,blk b26 [rowV q21 x20.1.turns.length,rowV q22 x20.1.hashes.length,rowV q23 x20.1.worlds.length,rowV q24 x20.1.splits.length,rowV q25 x20.1.log.length] 44]) ?_ ?_
        ·rintro ⟨⟩ ⟨⟩ H
         try dsimp only [Ex.then] at H
         refine Cont.kq [] ?_
         refine id (k14 _ _ ?_)
         refine T.seq fun _ k16=>nz ?_
         refine T.region ?_
         obtain ⟨x36,hx36,H⟩:=bindE H
         refine rq (Qt.call (vs:=[]) ent13 rfl fun w s=>throngtop_wakes_walk  w  hx36) (rA rfl (RS.nil (k16 _ _ ?_)))
         obtain rfl:=sj H
         refine nz ?_
         refine T.rt (Cont.ret1 rfl rfl fun w' s=>?_)
         exact ⟨rfl,s.ext⟩
        intro z35 hz35 HX35 hJ35
        refine T.block ?_
        refine T.loopA (γ:=Unit) hz35 [(1,_),(5,_)] (fun v37 _=>[(7,.int .i64 v37)]) (fun v37 _=>Sat w [blk b1 [.int .i64 a0_p.g.w,.int .i64 a0_p.g.h,.slice p0 a0_p.g.tiles.length c0,.int .i64 a0_p.players,.int .i64 a0_p.delay,.int .i64 a0_p.room,.slice p1 a0_p.l.length c1] 27,blk b11 [.int .i64 6,.int .i64 0,.int .i64 10,.int .i64 0,.slice none 0 0] 31,drow 31 (rowV q18 ((v15 ++ ([(⟨6,0,15,0,[]⟩:Act)]:List Act)).length)) (v15 ++ ([(⟨6,0,15,0,[]⟩:Act)]:List Act)),dead,dead,dead,blk b17 [.int .i64 6,.int .i64 0,.int .i64 15,.int .i64 0,.slice none 0 0] 31,dead,dead,dead,row nilH 3 (rowV q21 x20.1.turns.length) x20.1.turns,drow 87 (rowV q22 x20.1.hashes.length) x20.1.hashes,drow 52 (rowV q23 x20.1.worlds.length) x20.1.worlds,row nilH 4 (rowV q24 x20.1.splits.length) x20.1.splits,drow 200 (rowV q25 x20.1.log.length) x20.1.log,blk b26 [rowV q21 x20.1.turns.length,rowV q22 x20.1.hashes.length,rowV q23 x20.1.worlds.length,rowV q24 x20.1.splits.length,rowV q25 x20.1.log.length] 44]) () sb sb (fun w s=>s) ?_
        rintro v37 ⟨⟩ y38 H hd35 KL35 hL35
        try dsimp only [Ex.then] at H
        refine kq [7,1,5] ?_
        refine T.seq fun _ k17=>au 5 ?_
        refine T.cP H rfl (fun hc39 H=>?_) (fun hc39 H=>?_)
        ·refine T.skip (k17 _ _ (kq [1,5,7] ?_))
         refine T.seq fun _ k19=>T.block (T.seq fun _ k20=>?_)
         refine T.exP (fun w s=>s.freeze 12 rfl) fun hh40 hz41=>?_
         refine nz ?_
         refine dr mixed [0,1,0,0,0,1,0,0,0,0,1,0,0,0,1,0,0,1,0,0,0,0,1,0,0,1,0,0,0,1,0,0,1,0,1,0,1,0,0] ?_
         refine au 3 ?_
         obtain ⟨g42,H⟩:=gdE H
         refine RD.know (p:=∃ g cap,q23 = (some g,cap)) (fun w s=>(row_some' (e:=52) (drow_R hz41) (pos_of g42))) ?_
         rintro ⟨gg43,cc44,rfl⟩
         refine dp rfl (Pu.indexSl sl40.h rfl rfl g42) (dp rfl (Pu.fieldAddr fd52_5.h rfl) ?_)
         obtain ⟨c45,hc46,ha47⟩:=R_el (α:=Wld) (drow_R hz41) g42
         obtain ⟨u48,u49,u50,rfl,hu48,hu49,hu50⟩:=hc46
         obtain ⟨p51,cc52,rfl⟩:=R_form hu48
         obtain ⟨p53,cc54,rfl⟩:=R_form hu49
         obtain ⟨p55,cc56,rfl⟩:=R_form hu50
         refine dq rfl (Qt.ldZ1 (f:=7) (cs:=[_,_,_,_,_,_,_,_]) ty50.h rfl ha47 (Held.fz 12 rfl) rfl) (au 3 ?_)
         obtain ⟨g59,H⟩:=gdE H
         obtain ⟨g60,H⟩:=gdE H
         refine RD.joinV 11 129 (.bool (decide ((¬ (((gi x20.1.worlds v37).us).length:Int) = 1) ∨ (¬ (gi ((gi x20.1.worlds v37).us) (0:Int)).owner = 1)))) [(1,_),(5,_),(7,_)] sb ?_ ?_
         ·refine dp rfl (Pu.move rfl) ?_
          obtain ⟨g63,H⟩:=gdE H
          refine RD.joinV 6 136 (.bool (decide (((¬ (((gi x20.1.worlds v37).us).length:Int) = 1) ∨ (¬ (gi ((gi x20.1.worlds v37).us) (0:Int)).owner = 1)) ∨ ((gi x20.1.splits v37) = true)))) [(1,_),(5,_),(7,_)] sb ?_ ?_
          ·refine dp rfl (Pu.move rfl) ?_
           obtain ⟨g66,H⟩:=gdE H
           obtain ⟨g67,H⟩:=gdE H
           refine RD.joinV 11 148 (.bool (decide ((((¬ (((gi x20.1.worlds v37).us).length:Int) = 1) ∨ (¬ (gi ((gi x20.1.worlds v37).us) (0:Int)).owner = 1)) ∨ ((gi x20.1.splits v37) = true)) ∨ (¬ (gi x20.1.turns v37) = (gi x20.1.turns (0:Int)))))) [(1,_),(5,_),(7,_)] sb ?_ ?_
           ·refine RD.nil (k20 _ _ ?_)
            refine T.cP H rfl (fun hc68 H=>?_) (fun hc68 H=>?_)
            ·refine kq [] ?_
             refine au 2 ?_
             obtain rfl:=hd35 _ H
             have H:=HX35
             obtain rfl:=sj H
             refine nz ?_
             refine T.rt (Cont.ret1 rfl rfl fun w' s=>?_)
             exact ⟨rfl,s.ext⟩
            refine T.skip (k19 _ _ ?_)
            refine nz ?_
            refine T.region (rM rfl ?_)
            obtain ⟨g69,H⟩:=gdE H
            refine rp (Pu.addS rfl rfl g69) (rA rfl (RS.nil (hL35 _ _ (v37 + 1) () H sb sb (fun w s=>(Sat.thaw hz41 12 rfl s).pick [0,1,2,3,4,5,6,7,8,9,10,11,12,13,14,15] (by decide) rfl))))
           intro hJ65
           refine RD.splitP 137 rfl (fun hc64=>?_) (fun hc64=>?_)
           ·refine au 11 ?_
            exact hJ65 _ ⟨dOrT hc64,rfl,rfl,rfl,trivial⟩
           refine au 3 ?_
           refine RD.know (p:=∃ g cap,q21 = (some g,cap)) (fun w s=>(s.row_some (k:=10) rfl (pos_of (g66 hc64)))) ?_
           rintro ⟨gg70,cc71,rfl⟩
           refine dp rfl (Pu.indexSl sl35.h rfl rfl (g66 hc64)) (dq rfl (Qt.ld0 (α:=Int) (Rd.ofRowN 10 rfl) ty3.h rfl rfl (g66 hc64) (by rintro _ _ rfl; rfl)) (au 2 ?_))
           refine dp rfl (Pu.indexSl sl35.h rfl rfl (g67 hc64)) (dq rfl (Qt.ld0 (α:=Int) (Rd.ofRowN 10 rfl) ty3.h rfl rfl (g67 hc64) (by rintro _ _ rfl; rfl)) (au 2 ?_))
           exact hJ65 _ ⟨dOrF hc64,rfl,rfl,rfl,trivial⟩
          intro hJ62
          refine RD.splitP 130 rfl (fun hc61=>?_) (fun hc61=>?_)
          ·refine au 6 ?_
           exact hJ62 _ ⟨dOrT hc61,rfl,rfl,rfl,trivial⟩
          refine au 3 ?_
          refine RD.know (p:=∃ g cap,q24 = (some g,cap)) (fun w s=>(s.row_some (k:=13) rfl (pos_of (g63 hc61)))) ?_
          rintro ⟨gg72,cc73,rfl⟩
          refine dp rfl (Pu.indexSl sl41.h rfl rfl (g63 hc61)) (dq rfl (Qt.ld0 (α:=Bool) (Rd.ofRowN 13 rfl) ty4.h rfl rfl (g63 hc61) (by rintro _ _ rfl; rfl)) (dp rfl (Pu.pickF rfl rfl) ?_))
          exact hJ62 _ ⟨dOrFB hc61,rfl,rfl,rfl,trivial⟩
         intro hJ58
         refine RD.splitP 118 rfl (fun hc57=>?_) (fun hc57=>?_)
         ·refine au 11 ?_
          exact hJ58 _ ⟨dOrT hc57,rfl,rfl,rfl,trivial⟩
         refine au 3 ?_
         refine dp rfl (Pu.indexSl sl40.h rfl rfl (g59 hc57)) (dp rfl (Pu.fieldAddr fd52_5.h rfl) ?_)
         obtain ⟨c74,hc75,ha76⟩:=R_el (α:=Wld) (drow_R hz41) (g59 hc57)
         obtain ⟨u77,u78,u79,rfl,hu77,hu78,hu79⟩:=hc75
         obtain ⟨p80,cc81,rfl⟩:=R_form hu77
         obtain ⟨p82,cc83,rfl⟩:=R_form hu78
         obtain ⟨p84,cc85,rfl⟩:=R_form hu79
         refine dq rfl (Qt.ldZ1 (f:=7) (cs:=[_,_,_,_,_,_,_,_]) ty50.h rfl ha76 (Held.fz 12 rfl) rfl) ?_
         obtain ⟨bl86,ol87,rfl⟩:=R_ptr hu79 (ne_of_pos (pos_of (g60 hc57)))
         refine dp rfl (Pu.indexSl sl50.h rfl rfl (g60 hc57)) (dp rfl (Pu.fieldAddr fd54_1.h rfl) (dq rfl (Qt.ldF (α:=Unt) (Rd.ofFz 12 rfl hu79) ty3.h rfl rfl (g60 hc57) (by rintro _ _ rfl; rfl)) (au 2 ?_)))
         exact hJ58 _ ⟨dOrF hc57,rfl,rfl,rfl,trivial⟩
        obtain rfl:=hd35 _ H
        refine T.xt (hJ35 _ _ () () HX35 trivial trivial (fun w s=>s))
       intro hJ33
       refine RS.splitP 96 rfl (fun hc32=>?_) (fun hc32=>?_)
       ·refine au 7 ?_
        exact hJ33 _ _ ⟨dOrT hc32,rfl,rfl,trivial⟩ (fun w s=>s)
       refine au 7 ?_
       exact hJ33 _ _ ⟨dOrF hc32,rfl,rfl,trivial⟩ (fun w s=>s)
      intro hJ31
      refine RS.splitP 88 rfl (fun hc30=>?_) (fun hc30=>?_)
      ·refine au 7 ?_
       exact hJ31 _ _ ⟨dOrT hc30,rfl,rfl,trivial⟩ (fun w s=>s)
      refine au 7 ?_
      exact hJ31 _ _ ⟨dOrF hc30,rfl,rfl,trivial⟩ (fun w s=>s)
     intro hJ29
     refine RS.splitP 80 rfl (fun hc28=>?_) (fun hc28=>?_)
     ·refine au 7 ?_
      exact hJ29 _ _ ⟨dOrT hc28,rfl,rfl,trivial⟩ (fun w s=>s)
     refine au 7 ?_
     exact hJ29 _ _ ⟨dOrF hc28,rfl,rfl,trivial⟩ (fun w s=>s)
    intro z14 hz14 HX14 hJ14
    refine T.block ?_
    refine T.loopA (γ:=(Option Nat × Nat)) hz14 [(1,_)] (fun (v88,l89) q90=>[(3,rowV q90 l89.length),(4,.int .i64 v88)]) (fun (v88,l89) q90=>Sat w [blk b1 [.int .i64 a0_p.g.w,.int .i64 a0_p.g.h,.slice p0 a0_p.g.tiles.length c0,.int .i64 a0_p.players,.int .i64 a0_p.delay,.int .i64 a0_p.room,.slice p1 a0_p.l.length c1] 27,blk b11 [.int .i64 6,.int .i64 0,.int .i64 10,.int .i64 0,.slice none 0 0] 31,drow 31 (rowV q90 l89.length) l89,dead,dead,dead]) q12 sb sb (fun w s=>s) ?_
    rintro ⟨v88,l89⟩ q90 y91 H hd14 KL14 hL14
    try dsimp only [Ex.then] at H
    refine kq [3,4,1] ?_
    refine T.seq fun _ k22=>au 3 ?_
    refine T.cP H rfl (fun hc92 H=>?_) (fun hc92 H=>?_)
    ·refine T.skip (k22 _ _ ?_)
     refine T.seq fun _ k24=>T.block (nz ?_)
     refine T.drawnS [0,1,3,4,5] [(0,.pu),(1,.pu),(2,.pu),(3,.wk),(4,.wk),(5,.pu),(6,.pu),(7,.wk),(8,.wk),(9,.pu),(12,.pu),(13,.wk),(14,.pu),(15,.wk),(16,.rd),(17,.pu),(18,.pu),(10,.so),(11,.pu),(19,.so),(20,.br),(21,.pu)] mixed (by kernel_rfl) rfl ?_
     refine au 4 ?_
     obtain ⟨x93,hx93,H⟩:=bindE H
     refine RD.w (fun w s=>s.pc [0,1,3,4,5]) rfl (Qt.call (vs:=[_,_]) ent9 rfl fun w s=>throngref5_Center_walk a0_p.g 0 w ((Rd.base h0) w s) hx93) rfl rfl ?_
     refine RD.p (fun w s=>s.pc [0,1,3,4,5]) rfl (Pu.build (cells:=[_,_,_,_,_,_,_,_,_,_]) st37 rfl rfl) rfl rfl (au 2 ?_)
     obtain ⟨x94,hx94,H⟩:=bindE H
     refine RD.w (fun w s=>s.pc [0,1,3,4,5]) rfl (Qt.call (vs:=[_,_]) ent9 rfl fun w s=>throngref5_Center_walk a0_p.g 0 w ((Rd.base h0) w s) hx94) rfl rfl ?_
     refine RD.p (fun w s=>s.pc [0,1,3,4,5]) rfl (Pu.build (cells:=[_,_,_,_,_,_,_,_,_,_]) st37 rfl rfl) rfl rfl (au 4 ?_)
     obtain ⟨x95,hx95,H⟩:=bindE H
     refine RD.q (fun w s=>s.pc [0,1,3,4,5]) rfl (Qt.call (vs:=[_,_]) ent10 rfl fun w s=>thronglaw0_Within_walk a0_p.room a0_p.players w  hx95) rfl rfl ?_
     obtain ⟨g96,H⟩:=gdE H
     refine RD.p (fun w s=>s.pc [0,1,3,4,5]) rfl (Pu.addS rfl rfl g96) rfl rfl (RD.p (fun w s=>s.pc [0,1,3,4,5]) rfl (Pu.build (cells:=[_,_,_,_,_]) st31 rfl rfl) rfl rfl (RD.solid rfl (.inl rfl) rfl rfl (Sd.post (S2:=fun b97=>Sat w [blk b1 [.int .i64 a0_p.g.w,.int .i64 a0_p.g.h,.slice p0 a0_p.g.tiles.length c0,.int .i64 a0_p.players,.int .i64 a0_p.delay,.int .i64 a0_p.room,.slice p1 a0_p.l.length c1] 27,blk b11 [.int .i64 6,.int .i64 0,.int .i64 10,.int .i64 0,.slice none 0 0] 31,drow 31 (rowV q90 l89.length) l89,dead,dead,dead,drow 37 (rowV (some b97,2) 2) ([(⟨0,1,1,0,[],0,0,0,x93⟩:Cmd),(⟨0,2,1,0,[],0,0,0,x94⟩:Cmd)]:List Cmd),dead,dead,dead,dead,dead]) (Sd.litS (cs:=[_,_,_,_,_,_,_,_,_,_,_,_,_,_,_,_,_,_,_,_]) sl29.h zr37 rfl rfl rfl rfl rfl) (fun b97 w s=>(Sat.litRowG (α:=Cmd) (m:=2) 6 11 ([(⟨0,1,1,0,[],0,0,0,x93⟩:Cmd),(⟨0,2,1,0,[],0,0,0,x94⟩:Cmd)]:List Cmd) (Sat.starAt 11 9 (Sat.starAt 11 10 (((Sat.starAt 9 7 (Sat.starAt 9 8 (((s.noStars).noStars).nilRow (α:=Int) 3) rfl rfl (by decide)) rfl rfl (by decide)).noStars).nilRow (α:=Int) 3) rfl rfl (by decide)) rfl rfl (by decide)) rfl rfl (by decide) (by decide) rfl (DRF.cons' (α:=Cmd) (x:=(⟨0,1,1,0,[],0,0,0,x93⟩:Cmd)) (fun _ h=>⟨_,rfl,h⟩) (DRF.cons' (α:=Cmd) (x:=(⟨0,2,1,0,[],0,0,0,x94⟩:Cmd)) (fun _ h=>⟨_,rfl,h⟩) DRF.nil'))))) (fun _=>ClE.sat _ _) (fun _ w s=>s.pc [0,1,3,4,5]) (fun _ _ _ s=>s.drop1) fun b97=>?_))
     refine RD.p (fun w s=>s.pc [0,1,3,4,5]) rfl (Pu.build (cells:=[_,_,_,_,_]) st31 rfl rfl) rfl rfl (RD.solid rfl (.inl rfl) rfl rfl (Sd.litS (cs:=[_,_,_,_,_,_,_,_,_,_]) sl25.h zr31 rfl rfl rfl rfl rfl) (fun _=>ClE.sat _ _) (fun _ w s=>s.pc [0,1,3,4,5]) (fun _ _ _ s=>s.drop1) fun b98=>?_)
     obtain ⟨g100,H⟩:=gdE H
     dsimp only [List.set,List.cons_append,List.nil_append,List.append_assoc]
     refine RD.solid rfl (.inr rfl) rfl rfl (Sd.pre (fun w s=>(Sat.starAt 6 15 (Sat.starAt 6 16 (Sat.relenG (q:=(some b97,2)) (m:=2) 6 ((Sat.starAt 15 13 (Sat.starAt 15 14 (((s.noStars).noStars).nilRowG (α:=Cmd) 37) rfl rfl (by decide)) rfl rfl (by decide)).noStars) rfl) rfl rfl (by decide)) rfl rfl (by decide))) (Sd.appL (α:=Act) 2 12 6 ([(⟨1,v88,0,0,([(⟨0,1,1,0,[],0,0,0,x93⟩:Cmd),(⟨0,2,1,0,[],0,0,0,x94⟩:Cmd)]:List Cmd)⟩:Act),(⟨2,(1 + x95),0,0,[]⟩:Act)]:List Act) rfl rfl rfl (DRF.cons' (α:=Act) (x:=(⟨1,v88,0,0,([(⟨0,1,1,0,[],0,0,0,x93⟩:Cmd),(⟨0,2,1,0,[],0,0,0,x94⟩:Cmd)]:List Cmd)⟩:Act)) (fun _ h=>⟨_,rfl,h⟩) (DRF.cons' (α:=Act) (x:=(⟨2,(1 + x95),0,0,[]⟩:Act)) (fun _ h=>⟨_,rfl,h⟩) DRF.nil')) rfl sl25.h zr31 rfl rfl rfl rfl g100 (by decide))) (fun _=>ClE.sat _ _) (fun _ w s=>s.pc [0,1,3,4,5]) (fun h=>nomatch h) fun q99=>?_
     dsimp only [List.set,List.cons_append,List.nil_append,List.append_assoc]
     refine RD.p (fun w s=>s.pc [0,1,3,4,5]) rfl (Pu.assign rfl) rfl rfl (RD.nil (k24 _ _ (kq [1,3,4] ?_)))
     refine nz ?_
     refine T.region (rM rfl ?_)
     obtain ⟨g101,H⟩:=gdE H
     refine rp (Pu.subS rfl rfl g101) (rA rfl (RS.nil (hL14 _ _ ((v88 - 1),(l89 ++ ([(⟨1,v88,0,0,([(⟨0,1,1,0,[],0,0,0,x93⟩:Cmd),(⟨0,2,1,0,[],0,0,0,x94⟩:Cmd)]:List Cmd)⟩:Act),(⟨2,(1 + x95),0,0,[]⟩:Act)]:List Act))) q99 H sb sb (fun w s=>s.pc [0,1,2,3,4,5]))))
    obtain rfl:=hd14 _ H
    refine T.xt (hJ14 _ _ l89 q90 HX14 sb sb (fun w s=>s))
   intro hJ8
   refine RS.splitP 21 rfl (fun hc7=>?_) (fun hc7=>?_)
   ·refine au 7 ?_
    exact hJ8 _ _ ⟨dOrT hc7,rfl,trivial⟩ (fun w s=>s)
   refine au 3 ?_
   obtain ⟨bl102,ol103,rfl⟩:=R_ptr h0 (ne_of_pos (pos_of (g9 hc7)))
   refine rp (Pu.indexSl sl22.h rfl rfl (g9 hc7)) (rq (Qt.ld0 (α:=UInt8) (Rd.base h0) ty5.h rfl rfl (g9 hc7) (by rintro _ _ rfl; rfl)) (au 2 ?_))
   exact hJ8 _ _ ⟨dOrF hc7,rfl,trivial⟩ (fun w s=>s)
  intro hJ6
  refine RS.splitP 16 rfl (fun hc5=>?_) (fun hc5=>?_)
  ·refine au 4 ?_
   exact hJ6 _ _ ⟨dOrT hc5,rfl,trivial⟩ (fun w s=>s)
  refine au 4 ?_
  exact hJ6 _ _ ⟨dOrF hc5,rfl,trivial⟩ (fun w s=>s)
 intro hJ4
 refine RS.split 11 rfl (fun hc3=>?_) (fun hc3=>?_)
 ·refine au 4 ?_
  exact hJ4 _ _ ⟨dOrT hc3,rfl,trivial⟩ (fun w s=>s)
 refine au 4 ?_
 exact hJ4 _ _ ⟨dOrF (bne_of hc3),rfl,trivial⟩ (fun w s=>s)
end Go.Proofs.YtmngdgclldkcfaaGreat
