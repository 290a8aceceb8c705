/-
  Walks of what the page says of routes.
-/
import Derived.Test.YthdbofgcckjopaaGreatRows
import Derived.Test.YthdbofgcckjopaaGreatW3
import Derived.Test.YthdbofgcckjopaaGreatRPG
import Derived.Test.YthdbofgcckjopaaGreatRH
set_option linter.unusedVariables false
set_option linter.unusedSimpArgs false
set_option maxRecDepth 20000
set_option maxHeartbeats 4000000
namespace Go.Proofs.YthdbofgcckjopaaGreat
open Go.Vg
open Enc (R)
theorem ent119:Ent Tryz.prog 119:=⟨_,_,Tryz.func119,by kernel_rfl,rfl⟩
theorem ent20:Ent Tryz.prog 20:=⟨_,_,Tryz.func20,by kernel_rfl,rfl⟩
theorem ent51:Ent Tryz.prog 51:=⟨_,_,Tryz.func51,by kernel_rfl,rfl⟩
theorem ent52:Ent Tryz.prog 52:=⟨_,_,Tryz.func52,by kernel_rfl,rfl⟩
theorem ent53:Ent Tryz.prog 53:=⟨_,_,Tryz.func53,by kernel_rfl,rfl⟩
theorem ent54:Ent Tryz.prog 54:=⟨_,_,Tryz.func54,by kernel_rfl,rfl⟩
theorem ent85:Ent Tryz.prog 85:=⟨_,_,Tryz.func85,by kernel_rfl,rfl⟩
theorem ent86:Ent Tryz.prog 86:=⟨_,_,Tryz.func86,by kernel_rfl,rfl⟩
theorem fd52_0:fdOff Tryz.prog 52 0 = some 0:=by kernel_rfl
theorem fd52_1:fdOff Tryz.prog 52 1 = some 1:=by kernel_rfl
theorem fd52_2:fdOff Tryz.prog 52 2 = some 2:=by kernel_rfl
theorem fd95_0:fdOff Tryz.prog 95 0 = some 0:=by kernel_rfl
theorem fd95_1:fdOff Tryz.prog 95 1 = some 1:=by kernel_rfl
theorem fd95_2:fdOff Tryz.prog 95 2 = some 2:=by kernel_rfl
theorem sl92:slTy Tryz.prog 92 = some (23,1,24):=by kernel_rfl
theorem sl93:slTy Tryz.prog 93 = some (95,3,24):=by kernel_rfl
theorem st52:stTy Tryz.prog 52 = some ([.int .i64 0,.slice none 0 0,.slice none 0 0],[(0,1),(1,1),(2,1)]):=by kernel_rfl
theorem st95:stTy Tryz.prog 95 = some ([.int .i64 0,.int .i64 0,.bool false],[(0,1),(1,1),(2,1)]):=by kernel_rfl
theorem ty52:tySz Tryz.prog 52 = some (3,true):=by kernel_rfl
theorem ty95:tySz Tryz.prog 95 = some (3,true):=by kernel_rfl
theorem zr23:zeroOf Tryz.prog 23 = some (.slice none 0 0):=by kernel_rfl
theorem zr52:zeroOf Tryz.prog 52 = some (.agg #[.int .i64 0,.slice none 0 0,.slice none 0 0]):=by kernel_rfl
theorem zr95:zeroOf Tryz.prog 95 = some (.agg #[.int .i64 0,.int .i64 0,.bool false]):=by kernel_rfl
theorem throngref0_CopyPortals_walk (a0_l:List Prt) (w:World) {v0:Value} (h0:R (hpOf w) a0_l [v0]) {r:List Prt} (H:throngref0_CopyPortals a0_l = some r):Calls Tryz.prog 119 #[v0] w fun e w'=>∃ q1:(Option Nat × Nat),e = .returned (rowV q1 r.length)∧Sat w [row nilH 67 (rowV q1 r.length) r] w':=by
 have hm0:=R_max h0
 obtain ⟨p0,c0,rfl⟩:=R_form h0
 unfold throngref0_CopyPortals at H
 refine T.enter (args:=[_]) (S:=Sat w []) Tryz.func119 rfl rfl (Sat.start w) ?_
 refine T.seq fun K1 hK1=>T.region (rA rfl (RS.nil (hK1 _ _ ?_)))
 refine T.seq fun K2 hK2=>T.region (rA rfl (RS.nil (hK2 _ _ ?_)))
 refine T.seq fun K3 hK3=>T.seq fun K4 hK4=>T.region (rA rfl (RS.nil (hK4 _ _ ?_)))
 refine T.joinE (σ:=List Prt) (γ:=(Option Nat × Nat)) H (fun s=>s) [] trivial (fun v2 q3=>[(3,rowV q3 v2.length)]) (fun v2 q3=>Sat w [row nilH 67 (rowV q3 v2.length) v2]) ?_ ?_
 ·rintro v2 q3 H
  try dsimp only [Ex.then] at H
  refine Cont.conseq (fr':=[(3,_)]) ?_ ⟨rfl,trivial⟩ (fun _ s=>s)
  refine id (hK3 _ _ ?_)
  refine T.seq fun K5 hK5=>T.region (rM rfl (rA rfl (RS.nil (hK5 _ _ ?_))))
  obtain rfl:=sj H
  refine T.rt (Cont.ret1 rfl rfl fun w' s=>?_)
  exact ⟨q3,rfl,s.pick [0] (by decide) rfl⟩
 ·intro z1 hz1 HX1 hJ1
  refine T.block ?_
  refine T.loopA (γ:=(Option Nat × Nat)) hz1 [(0,_)] (fun (l4,v6) q5=>[(3,rowV q5 l4.length),(4,.int .i64 v6)]) (fun (l4,v6) q5=>Sat w [row nilH 67 (rowV q5 l4.length) l4]) (none,0) ⟨rfl,trivial⟩ ⟨rfl,rfl,trivial⟩ (fun w s=>(s.nilRow (α:=Prt) 67).pick [0] (by decide) rfl) ?_
  rintro ⟨l4,v6⟩ q5 y7 H hd1 KL1 hL1
  try dsimp only [Ex.then] at H
  refine cq [(3,_),(4,_),(0,_)] ?_
  refine T.seq fun K6 hK6=>T.seq fun K7 hK7=>T.region (rM rfl (rM rfl (rp (Pu.lenSl sl62 rfl) (rp (Pu.bin rfl rfl rfl) (RS.nil (hK7 _ _ ?_))))))
  refine T.condP rfl (fun hc8=>?_) (fun hc8=>?_)
  ·have H:=ifT hc8 H
   refine T.skip (hK6 _ _ (cq [(0,_),(3,_),(4,_)] ?_))
   refine T.seq fun K8 hK8=>T.block (T.region (rM rfl (rM rfl (rM rfl ?_))))
   obtain ⟨g9,H⟩:=gdE H
   obtain ⟨bl10,ol11,rfl⟩:=R_ptr h0 (ne_of_pos (pos_of g9))
   refine rp (Pu.indexSl sl62 rfl rfl g9) (rq (Qt.ldW (α:=Prt) (cs:=[_,_,_]) (Rd.base h0) ty67 rfl rfl g9 rfl (by rintro _ _ rfl; rfl)) (RS.solid (Sd.litS (cs:=[_,_,_]) sl62 zr67 rfl rfl rfl rfl rfl) rfl rfl fun b12=>?_))
   obtain ⟨g14,H⟩:=gdE H
   refine RS.solid (Sd.app1c (α:=Prt) 0 1 (gi a0_l v6) rfl rfl (nilH_lt _) sl62 zr67 rfl rfl rfl rfl g14 (by decide)) rfl rfl fun q13=>rA rfl (RS.nil (hK8 _ _ (cq [(0,_),(3,_),(4,_)] ?_)))
   refine T.region (rM rfl ?_)
   obtain ⟨g15,H⟩:=gdE H
   refine rp (Pu.addS rfl rfl g15) (rA rfl (RS.nil (hL1 _ _ ((l4 ++ [(gi a0_l v6)]),(v6 + 1)) q13 H ⟨rfl,trivial⟩ ⟨rfl,rfl,trivial⟩ (fun w s=>s.pick [0] (by decide) rfl))))
  ·have H:=ifF hc8 H
   obtain rfl:=hd1 _ H
   refine T.xt (hJ1 _ _ l4 q5 HX1 trivial ⟨rfl,trivial⟩ (fun w s=>s))
theorem throngref10_pair_walk (a0_w:Int) (a1_h:Int) (a2_free:List Bool) (a3_t:Int) (a4_down:Bool) (w:World) {v0:Value} (h0:R (hpOf w) a2_free [v0]) {r:Int × Bool} (H:throngref10_pair a0_w a1_h a2_free a3_t a4_down = some r):Calls Tryz.prog 85 #[.int .i64 a0_w,.int .i64 a1_h,v0,.int .i64 a3_t,.bool a4_down] w fun e w'=>e = .returned (.tuple #[.int .i64 r.1,.bool r.2])∧Ext w w':=by
 have hm0:=R_max h0
 obtain ⟨p0,c0,rfl⟩:=R_form h0
 unfold throngref10_pair at H
 refine T.enter (args:=[_,_,_,_,_]) (S:=Sat w []) Tryz.func85 rfl rfl (Sat.start w) ?_
 refine T.seq fun K1 hK1=>T.region (rA rfl (rA rfl (RS.nil (hK1 _ _ ?_))))
 refine T.seq fun K2 hK2=>T.region (rM rfl ?_)
 obtain ⟨g1,H⟩:=gdE H
 refine rp (Pu.addS rfl rfl g1) (rA rfl (RS.nil (hK2 _ _ (cq [(0,_),(1,_),(2,_),(3,_),(4,_),(12,_)] ?_))))
 refine T.seq fun K3 hK3=>T.seq fun K4 hK4=>T.region (rM rfl (RS.nil (hK4 _ _ ?_)))
 refine T.joinE (σ:=Int) (γ:=Unit) H Ex.go [(0,_),(2,_),(3,_)] ⟨rfl,rfl,rfl,trivial⟩ (fun v3 _=>[(12,.int .i64 v3)]) (fun v3 _=>Sat w []) ?_ ?_
 ·rintro v3 ⟨⟩ H
  try dsimp only [Ex.then] at H
  refine Cont.conseq (fr':=[(12,_),(0,_),(2,_),(3,_)]) ?_ ⟨rfl,rfl,rfl,rfl,trivial⟩ (fun _ s=>s)
  refine id (hK3 _ _ ?_)
  refine T.seq fun K5 hK5=>T.region (rM rfl (rM rfl (rM rfl ?_)))
  obtain ⟨g4,H⟩:=gdE H
  obtain ⟨bl5,ol6,rfl⟩:=R_ptr h0 (ne_of_pos (pos_of g4))
  refine rp (Pu.indexSl sl59 rfl rfl g4) (rq (Qt.ld0 (α:=Bool) (Rd.base h0) ty4 rfl rfl g4 (by rintro _ _ rfl; rfl)) (rM rfl ?_))
  obtain ⟨g9,H⟩:=gdE H
  refine RS.joinV 5 41 (.bool (decide (((gi a2_free a3_t) = true)∧((gi a2_free v3) = true)))) [(0,_),(3,_),(12,_),(31,_)] ⟨rfl,rfl,rfl,rfl,trivial⟩ ?_ ?_
  ·refine rM rfl ?_
   refine RS.joinB H 8 50 (fun b12=>.bool b12) [(31,_)] ⟨rfl,trivial⟩ ?_ ?_
   ·intro b12 H
    refine rA rfl (rA rfl (RS.nil (hK5 _ _ ?_)))
    obtain rfl:=sj H
    refine T.rt (Cont.ret2 rfl rfl rfl fun w' s=>?_)
    exact ⟨rfl,s.ext⟩
   ·intro z13 H hJ11
    refine RS.splitP 42 rfl (fun hc10=>?_) (fun hc10=>?_)
    ·have H:=ifT hc10 H
     refine rM rfl (rM rfl ?_)
     obtain ⟨x14,hx14,H⟩:=bindE H
     refine rq (Qt.call (vs:=[.int .i64 a0_w,.int .i64 a3_t]) ent32 rfl fun w s=>throngref10_Of_walk a0_w a3_t w  hx14) (rM rfl (rM rfl ?_))
     obtain ⟨x15,hx15,H⟩:=bindE H
     refine rq (Qt.call (vs:=[.int .i64 a0_w,.int .i64 v3]) ent32 rfl fun w s=>throngref10_Of_walk a0_w v3 w  hx15) (rp (Pu.bin rfl rfl rfl) (rp (Pu.pickT rfl rfl) ?_))
     obtain rfl:=sj H
     exact hJ11 _ _ ⟨rfl,rfl,trivial⟩ (fun w s=>s)
    ·have H:=ifF hc10 H
     refine ro (ro (ro (ro (ro (ro (ro (rp (Pu.pickF rfl rfl) ?_)))))))
     obtain rfl:=sj H
     exact hJ11 _ _ ⟨rfl,rfl,trivial⟩ (fun w s=>s)
  ·intro hJ8
   refine RS.split 36 rfl (fun hc7=>?_) (fun hc7=>?_)
   ·refine rM rfl (rM rfl (rp (Pu.indexSl sl59 rfl rfl (g9 hc7)) (rq (Qt.ld0 (α:=Bool) (Rd.base h0) ty4 rfl rfl (g9 hc7) (by rintro _ _ rfl; rfl)) (rp (Pu.pickT rfl rfl) ?_))))
    exact hJ8 _ _ ⟨dAndTB hc7,rfl,rfl,rfl,rfl,trivial⟩ (fun w s=>s)
   ·refine ro (ro (ro (ro (rp (Pu.pickF rfl rfl) ?_))))
    exact hJ8 _ _ ⟨dAndF (bne_of hc7),rfl,rfl,rfl,rfl,trivial⟩ (fun w s=>s)
 ·intro z2 H HX2 hJ2
  refine T.cond rfl (fun hc16=>?_) (fun hc16=>?_)
  ·have H:=ifT hc16 H
   refine cq [(0,_),(1,_),(2,_),(3,_)] ?_
   refine T.seq fun K6 hK6=>T.region (rM rfl (rM rfl ?_))
   obtain ⟨g17,H⟩:=gdE H
   refine rp (Pu.addS rfl rfl g17) (rA rfl (RS.nil (hK6 _ _ (cq [(0,_),(1,_),(2,_),(3,_),(12,_)] ?_))))
   refine T.seq fun K7 hK7=>T.region (rM rfl (rM rfl ?_))
   obtain ⟨g18,H⟩:=gdE H
   refine rp (Pu.quoN rfl rfl g18) (rM rfl ?_)
   obtain ⟨g19,H⟩:=gdE H
   refine rp (Pu.subS rfl rfl g19) (rp (Pu.bin rfl rfl rfl) (RS.nil (hK7 _ _ ?_)))
   refine T.condP rfl (fun hc20=>?_) (fun hc20=>?_)
   ·have H:=ifT hc20 H
    refine cq [] ?_
    refine T.seq fun K8 hK8=>T.region (rA rfl (rA rfl (RS.nil (hK8 _ _ ?_))))
    obtain rfl:=sj H
    have H:=HX2
    obtain rfl:=sj H
    refine T.rt (Cont.ret2 rfl rfl rfl fun w' s=>?_)
    exact ⟨rfl,s.ext⟩
   ·have H:=ifF hc20 H
    obtain rfl:=sj H
    refine T.skip (hJ2 _ _ (a3_t + a0_w) () HX2 ⟨rfl,rfl,rfl,trivial⟩ ⟨rfl,trivial⟩ (fun w s=>s))
  ·have H:=ifB hc16 H
   refine cq [(0,_),(2,_),(3,_),(12,_)] ?_
   refine T.seq fun K9 hK9=>T.region (rM rfl (rM rfl ?_))
   obtain ⟨g21,H⟩:=gdE H
   refine rp (Pu.remN rfl rfl (and3 g21)) (rM rfl ?_)
   obtain ⟨g22,H⟩:=gdE H
   refine rp (Pu.subS rfl rfl g22) (rp (Pu.bin rfl rfl rfl) (RS.nil (hK9 _ _ ?_)))
   refine T.condP rfl (fun hc23=>?_) (fun hc23=>?_)
   ·have H:=ifT hc23 H
    refine cq [] ?_
    refine T.seq fun K10 hK10=>T.region (rA rfl (rA rfl (RS.nil (hK10 _ _ ?_))))
    obtain rfl:=sj H
    have H:=HX2
    obtain rfl:=sj H
    refine T.rt (Cont.ret2 rfl rfl rfl fun w' s=>?_)
    exact ⟨rfl,s.ext⟩
   ·have H:=ifF hc23 H
    obtain rfl:=sj H
    refine T.skip (hJ2 _ _ (a3_t + 1) () HX2 ⟨rfl,rfl,rfl,trivial⟩ ⟨rfl,trivial⟩ (fun w s=>s))
theorem throngref10_with_walk (a0_l:List Prt) (a1_p:Prt) (w:World) {v0:Value} (h0:R (hpOf w) a0_l [v0]) {r:List Prt} (H:throngref10_with a0_l a1_p = some r):Calls Tryz.prog 86 #[v0,.agg #[.int .i64 a1_p.a,.int .i64 a1_p.b,.int .i64 a1_p.width]] w fun e w'=>∃ q1:(Option Nat × Nat),e = .returned (rowV q1 r.length)∧Sat w [row nilH 67 (rowV q1 r.length) r] w':=by
 have hm0:=R_max h0
 obtain ⟨p0,c0,rfl⟩:=R_form h0
 unfold throngref10_with at H
 refine T.enter (args:=[_,_]) (S:=Sat w []) Tryz.func86 rfl rfl (Sat.start w) ?_
 refine T.seq fun K1 hK1=>T.region (RS.solid (Sd.box (cs:=[_,_,_]) rfl rfl) rfl rfl fun b1=>rA rfl (RS.nil (hK1 _ _ ?_)))
 refine T.seq fun K2 hK2=>T.region (rA rfl (RS.nil (hK2 _ _ ?_)))
 refine T.joinA (σ:=Int) (γ:=Unit) H (fun s=>s) [(0,_),(3,_)] ⟨rfl,rfl,trivial⟩ (fun v3 _=>[(5,.int .i64 v3)]) (fun v3 _=>Sat w [blk b1 [.int .i64 a1_p.a,.int .i64 a1_p.b,.int .i64 a1_p.width] 67]) ?_ ?_
 ·rintro v3 ⟨⟩ H
  try dsimp only [Ex.then] at H
  refine cq [(5,_),(0,_),(3,_)] ?_
  refine T.joinA (σ:=List Prt) (γ:=(Option Nat × Nat)) H (fun s=>s) [(0,_),(5,_)] ⟨rfl,rfl,trivial⟩ (fun v5 q6=>[(6,rowV q6 v5.length)]) (fun v5 q6=>Sat w [blk b1 [.int .i64 a1_p.a,.int .i64 a1_p.b,.int .i64 a1_p.width] 67,row nilH 67 (rowV q6 v5.length) v5]) ?_ ?_
  ·rintro v5 q6 H
   try dsimp only [Ex.then] at H
   refine cq [(6,_),(0,_),(5,_)] ?_
   refine T.seq fun K5 hK5=>T.region (rM rfl (rM rfl (rM rfl ?_)))
   obtain ⟨g7,H⟩:=gdE H
   refine rp (Pu.sliceL sl62 rfl rfl g7) ?_
   obtain ⟨g9,H⟩:=gdE H
   refine RS.solid (Sd.appR (α:=Prt) 1 (nilH_lt _) rfl sl62 zr67 rfl rfl rfl (Rd.drop (Rd.base h0) (le_nat g7) rfl) g9 (by decide)) rfl rfl fun q8=>rA rfl (RS.nil (hK5 _ _ (cq [(4,_)] ?_)))
   obtain rfl:=sj H
   refine T.rt (Cont.ret1 rfl rfl fun w' s=>?_)
   exact ⟨q8,rfl,s.pick [1] (by decide) rfl⟩
  ·intro z4 H HX4 K4 hJ4
   refine T.drawnTS [0] [(0,.pu),(1,.pu),(2,.pu),(3,.so),(4,.wk),(5,.so),(6,.br),(7,.pu)] (.st 0 .pu (.st 1 .pu (.st 2 .pu (.st 4 .wk (.two 3 .so (.st 5 .so (.st 6 .br (.st 7 .pu .nil))) 5 .so (.st 3 .so (.st 6 .br (.st 7 .pu .nil)))))))) mixed (by kernel_rfl) rfl ?_
   refine RT.p (fun w s=>s.pick [0] (by decide) rfl) rfl (Pu.move rfl) rfl rfl (RT.p (fun w s=>s.pick [0] (by decide) rfl) rfl (Pu.move rfl) rfl rfl ?_)
   obtain ⟨g10,H⟩:=gdE H
   refine RT.p (fun w s=>s.pick [0] (by decide) rfl) rfl (Pu.sliceH sl62 rfl rfl (le_cap g10 (R_len h0).2.1)) rfl rfl ?_
   refine RT.w (fun w s=>s.pick [0] (by decide) rfl) rfl (Qt.ldBA (us:=[_,_,_]) 0 ty67 rfl rfl rfl rfl) rfl rfl ?_
   obtain ⟨x11,hx11,H⟩:=bindE H
   obtain ⟨g15,H⟩:=gdE H
   refine RT.two ?_ ?_
   ·refine RT1.solid rfl (.inl rfl) rfl rfl (Sd.callN (vs:=[.slice p0 (v3.toNat) c0]) ent119 rfl (fun w s=>throngref0_CopyPortals_walk (a0_l.take v3.toNat) w ((Rd.take (Rd.base h0) (le_nat g10)) w s) hx11)) (fun _=>ClE.sat _ _) (fun _ w s=>s.pick [0] (by decide) rfl) (fun _ _ _ s=>s.drop1) fun q211=>?_
    refine RT.solid rfl (.inl rfl) rfl rfl (Sd.litS (cs:=[_,_,_]) sl62 zr67 rfl rfl rfl rfl rfl) (fun _=>ClE.sat _ _) (fun _ w s=>s.pick [0] (by decide) rfl) (fun _ _ _ s=>s.drop1) fun b212=>?_
    refine RT.solid rfl (.inr rfl) rfl rfl (Sd.app1c (α:=Prt) 1 2 a1_p rfl rfl (nilH_lt _) sl62 zr67 rfl rfl rfl rfl g15 (by decide)) (fun _=>ClE.sat _ _) (fun _ w s=>s.pick [0] (by decide) rfl) (fun h=>nomatch h) fun q213=>?_
    refine RT.p (fun w s=>s.pick [0] (by decide) rfl) rfl (Pu.assign rfl) rfl rfl ?_
    obtain rfl:=sj H
    refine RT.nil (hJ4 _ _ (x11 ++ [a1_p]) q213 HX4 ⟨rfl,rfl,trivial⟩ ⟨rfl,trivial⟩ (fun w s=>s.pick [0,1] (by decide) rfl))
   ·refine RT1.solid rfl (.inl rfl) rfl rfl (Sd.litS (cs:=[_,_,_]) sl62 zr67 rfl rfl rfl rfl rfl) (fun _=>ClE.sat _ _) (fun _ w s=>s.pick [0] (by decide) rfl) (fun _ _ _ s=>s.drop1) fun b214=>?_
    refine RT.solid rfl (.inl rfl) rfl rfl (Sd.callN (vs:=[.slice p0 (v3.toNat) c0]) ent119 rfl (fun w s=>throngref0_CopyPortals_walk (a0_l.take v3.toNat) w ((Rd.take (Rd.base h0) (le_nat g10)) w s) hx11)) (fun _=>ClE.sat _ _) (fun _ w s=>s.pick [0] (by decide) rfl) (fun _ _ _ s=>s.drop1) fun q215=>?_
    refine RT.solid rfl (.inr rfl) rfl rfl (Sd.app1c (α:=Prt) 2 1 a1_p rfl rfl (nilH_lt _) sl62 zr67 rfl rfl rfl rfl g15 (by decide)) (fun _=>ClE.sat _ _) (fun _ w s=>s.pick [0] (by decide) rfl) (fun h=>nomatch h) fun q216=>?_
    refine RT.p (fun w s=>s.pick [0] (by decide) rfl) rfl (Pu.assign rfl) rfl rfl ?_
    obtain rfl:=sj H
    refine RT.nil (hJ4 _ _ (x11 ++ [a1_p]) q216 HX4 ⟨rfl,rfl,trivial⟩ ⟨rfl,trivial⟩ (fun w s=>s.pick [0,2] (by decide) rfl))
 ·intro z2 hz2 HX2 K3 hJ2
  refine T.block ?_
  refine T.loopA (γ:=Unit) hz2 [(0,_),(3,_)] (fun v217 _=>[(5,.int .i64 v217)]) (fun v217 _=>Sat w [blk b1 [.int .i64 a1_p.a,.int .i64 a1_p.b,.int .i64 a1_p.width] 67]) () ⟨rfl,rfl,trivial⟩ ⟨rfl,trivial⟩ (fun w s=>s) ?_
  rintro v217 ⟨⟩ y218 H hd2 KL2 hL2
  try dsimp only [Ex.then] at H
  refine cq [(5,_),(0,_),(3,_)] ?_
  refine T.seq fun K6 hK6=>T.seq fun K7 hK7=>?_
  refine T.drawn (fun _=>True) [(0,.pu),(1,.pu),(2,.pu),(3,.pu),(4,.pu),(5,.pu),(6,.pu),(7,.pu),(8,.pu),(9,.rd),(10,.pu),(11,.rd),(12,.pu),(13,.pu),(14,.pu),(15,.pu),(16,.pu),(17,.pu),(18,.rd),(19,.pu),(20,.rd),(21,.pu),(22,.pu),(23,.pu),(24,.pu),(25,.pu),(26,.pu),(27,.rd),(28,.pu),(29,.rd),(30,.pu),(31,.pu),(32,.pu),(33,.pu)] mixed (ClE.sat _ _) (by kernel_rfl) ?_
  refine dp rfl (Pu.move rfl) (dp rfl (Pu.move rfl) (dp rfl (Pu.lenSl sl62 rfl) (dp rfl (Pu.bin rfl rfl rfl) (dp rfl (Pu.move rfl) ?_))))
  obtain ⟨g221,H⟩:=gdE H
  obtain ⟨g222,H⟩:=gdE H
  obtain ⟨g223,H⟩:=gdE H
  refine RD.joinV 29 40 (.bool (decide ((v217 < (a0_l.length:Int))∧(((gi a0_l v217).a < a1_p.a) ∨ (((gi a0_l v217).a = a1_p.a)∧((gi a0_l v217).b < a1_p.b)))))) [(0,_),(3,_),(5,_)] ⟨rfl,rfl,rfl,trivial⟩ ?_ ?_
  ·refine RD.nil (hK7 _ _ ?_)
   refine T.condP rfl (fun hc224=>?_) (fun hc224=>?_)
   ·have H:=ifT hc224 H
    refine T.skip (hK6 _ _ ?_)
    refine T.block (T.region (rM rfl ?_))
    obtain ⟨g225,H⟩:=gdE H
    refine rp (Pu.addS rfl rfl g225) (rA rfl (RS.nil (hL2 _ _ (v217 + 1) () H ⟨rfl,rfl,trivial⟩ ⟨rfl,trivial⟩ (fun w s=>s))))
   ·have H:=ifF hc224 H
    obtain rfl:=hd2 _ H
    refine T.xt (hJ2 _ _ v217 () HX2 ⟨rfl,rfl,trivial⟩ ⟨rfl,trivial⟩ (fun w s=>s))
  ·intro hJ220
   refine RD.splitP 11 rfl (fun hc219=>?_) (fun hc219=>?_)
   ·refine dp rfl (Pu.move rfl) (dp rfl (Pu.move rfl) ?_)
    obtain ⟨bl226,ol227,rfl⟩:=R_ptr h0 (ne_of_pos (pos_of (g221 hc219)))
    refine dp rfl (Pu.indexSl sl62 rfl rfl (g221 hc219)) (dp rfl (Pu.fieldAddr fd67_0 rfl) (dq rfl (Qt.ldF (α:=Prt) (Rd.base h0) ty3 rfl rfl (g221 hc219) (by rintro _ _ rfl; rfl)) (dp rfl (Pu.fieldAddr fd67_0 rfl) (dq rfl (Qt.ldB 0 ty3 rfl rfl rfl) (dp rfl (Pu.bin rfl rfl rfl) (dp rfl (Pu.move rfl) ?_))))))
    refine RD.joinV 19 39 (.bool (decide (((gi a0_l v217).a < a1_p.a) ∨ (((gi a0_l v217).a = a1_p.a)∧((gi a0_l v217).b < a1_p.b))))) [(0,_),(3,_),(5,_),(7,_),(8,_),(9,_),(10,_),(11,_),(12,_),(13,_),(14,_),(15,_),(16,_),(17,_),(18,_),(19,_)] ⟨rfl,rfl,rfl,rfl,rfl,rfl,rfl,rfl,rfl,rfl,rfl,rfl,rfl,rfl,rfl,rfl,trivial⟩ ?_ ?_
    ·refine dp rfl (Pu.pickT rfl rfl) ?_
     exact hJ220 _ ⟨dAndT hc219,rfl,rfl,rfl,trivial⟩
    ·intro hJ229
     refine RD.splitP 20 rfl (fun hc228=>?_) (fun hc228=>?_)
     ·refine dn rfl (dn rfl (dn rfl (dn rfl (dn rfl (dn rfl (dn rfl (dn rfl (dn rfl (dn rfl (dn rfl (dn rfl (dn rfl (dn rfl ?_)))))))))))))
      refine dn rfl (dn rfl (dn rfl (dn rfl (dp rfl (Pu.pickT rfl rfl) ?_))))
      exact hJ229 _ ⟨dOrT hc228,rfl,rfl,rfl,rfl,rfl,rfl,rfl,rfl,rfl,rfl,rfl,rfl,rfl,rfl,rfl,rfl,trivial⟩
     ·refine dp rfl (Pu.move rfl) (dp rfl (Pu.move rfl) (dp rfl (Pu.indexSl sl62 rfl rfl ((g222 hc219) hc228)) (dp rfl (Pu.fieldAddr fd67_0 rfl) (dq rfl (Qt.ldF (α:=Prt) (Rd.base h0) ty3 rfl rfl ((g222 hc219) hc228) (by rintro _ _ rfl; rfl)) (dp rfl (Pu.fieldAddr fd67_0 rfl) (dq rfl (Qt.ldB 0 ty3 rfl rfl rfl) (dp rfl (Pu.bin rfl rfl rfl) (dp rfl (Pu.move rfl) ?_))))))))
      refine RD.joinV 9 38 (.bool (decide (((gi a0_l v217).a = a1_p.a)∧((gi a0_l v217).b < a1_p.b)))) [(0,_),(3,_),(5,_),(7,_),(8,_),(9,_),(10,_),(11,_),(12,_),(13,_),(14,_),(15,_),(16,_),(17,_),(18,_),(19,_),(20,_),(21,_),(22,_),(23,_),(24,_),(25,_),(26,_),(27,_),(28,_)] ⟨rfl,rfl,rfl,rfl,rfl,rfl,rfl,rfl,rfl,rfl,rfl,rfl,rfl,rfl,rfl,rfl,rfl,rfl,rfl,rfl,rfl,rfl,rfl,rfl,rfl,trivial⟩ ?_ ?_
      ·refine dp rfl (Pu.pickF rfl rfl) ?_
       exact hJ229 _ ⟨dOrF hc228,rfl,rfl,rfl,rfl,rfl,rfl,rfl,rfl,rfl,rfl,rfl,rfl,rfl,rfl,rfl,rfl,trivial⟩
      ·intro hJ231
       refine RD.splitP 29 rfl (fun hc230=>?_) (fun hc230=>?_)
       ·refine dp rfl (Pu.move rfl) (dp rfl (Pu.move rfl) (dp rfl (Pu.indexSl sl62 rfl rfl (((g223 hc219) hc228) hc230)) (dp rfl (Pu.fieldAddr fd67_1 rfl) (dq rfl (Qt.ldF (α:=Prt) (Rd.base h0) ty3 rfl rfl (((g223 hc219) hc228) hc230) (by rintro _ _ rfl; rfl)) (dp rfl (Pu.fieldAddr fd67_1 rfl) (dq rfl (Qt.ldB 0 ty3 rfl rfl rfl) (dp rfl (Pu.bin rfl rfl rfl) (dp rfl (Pu.pickT rfl rfl) ?_))))))))
        exact hJ231 _ ⟨dAndT hc230,rfl,rfl,rfl,rfl,rfl,rfl,rfl,rfl,rfl,rfl,rfl,rfl,rfl,rfl,rfl,rfl,rfl,rfl,rfl,rfl,rfl,rfl,rfl,rfl,rfl,trivial⟩
       ·refine dn rfl (dn rfl (dn rfl (dn rfl (dn rfl (dn rfl (dn rfl (dn rfl (dp rfl (Pu.pickF rfl rfl) ?_))))))))
        exact hJ231 _ ⟨dAndF hc230,rfl,rfl,rfl,rfl,rfl,rfl,rfl,rfl,rfl,rfl,rfl,rfl,rfl,rfl,rfl,rfl,rfl,rfl,rfl,rfl,rfl,rfl,rfl,rfl,rfl,trivial⟩
   ·refine dn rfl (dn rfl (dn rfl (dn rfl (dn rfl (dn rfl (dn rfl (dn rfl (dn rfl (dn rfl (dn rfl (dn rfl (dn rfl (dn rfl ?_)))))))))))))
    refine dn rfl (dn rfl (dn rfl (dn rfl (dn rfl (dn rfl (dn rfl (dn rfl (dn rfl (dn rfl (dn rfl (dn rfl (dn rfl (dn rfl ?_)))))))))))))
    refine dp rfl (Pu.pickF rfl rfl) ?_
    exact hJ220 _ ⟨dAndF hc219,rfl,rfl,rfl,trivial⟩
theorem throngref10_Find_walk (a0_w:Int) (a1_h:Int) (a2_free:List Bool) (w:World) {v0:Value} (h0:R (hpOf w) a2_free [v0]) {r:List Prt} (H:throngref10_Find a0_w a1_h a2_free = some r):Calls Tryz.prog 51 #[.int .i64 a0_w,.int .i64 a1_h,v0] w fun e w'=>∃ q1:(Option Nat × Nat),e = .returned (rowV q1 r.length)∧Sat w [row nilH 67 (rowV q1 r.length) r] w':=by
 have hm0:=R_max h0
 obtain ⟨p0,c0,rfl⟩:=R_form h0
 unfold throngref10_Find at H
 refine T.enter (args:=[_,_,_]) (S:=Sat w []) Tryz.func51 rfl rfl (Sat.start w) ?_
 refine T.seq fun K1 hK1=>T.region (rA rfl (RS.nil (hK1 _ _ ?_)))
 refine T.seq fun K2 hK2=>T.region (rA rfl (RS.nil (hK2 _ _ ?_)))
 refine T.seq fun K3 hK3=>T.seq fun K4 hK4=>T.region (rA rfl (RS.nil (hK4 _ _ ?_)))
 refine T.joinE (σ:=List Prt) (γ:=(Option Nat × Nat)) H (fun s=>s) [] trivial (fun v2 q3=>[(7,rowV q3 v2.length)]) (fun v2 q3=>Sat w [row nilH 67 (rowV q3 v2.length) v2]) ?_ ?_
 ·rintro v2 q3 H
  try dsimp only [Ex.then] at H
  refine Cont.conseq (fr':=[(7,_)]) ?_ ⟨rfl,trivial⟩ (fun _ s=>s)
  refine id (hK3 _ _ ?_)
  refine T.seq fun K5 hK5=>T.region (rM rfl (rA rfl (RS.nil (hK5 _ _ ?_))))
  obtain rfl:=sj H
  refine T.rt (Cont.ret1 rfl rfl fun w' s=>?_)
  exact ⟨q3,rfl,s.pick [0] (by decide) rfl⟩
 ·intro z1 hz1 HX1 hJ1
  refine T.block ?_
  refine T.loopA (γ:=(Option Nat × Nat)) hz1 [(0,_),(1,_),(2,_)] (fun (l4,v6) q5=>[(7,rowV q5 l4.length),(8,.int .i64 v6)]) (fun (l4,v6) q5=>Sat w [row nilH 67 (rowV q5 l4.length) l4]) (none,0) ⟨rfl,rfl,rfl,trivial⟩ ⟨rfl,rfl,trivial⟩ (fun w s=>(s.nilRow (α:=Prt) 67).pick [0] (by decide) rfl) ?_
  rintro ⟨l4,v6⟩ q5 y7 H hd1 KL1 hL1
  try dsimp only [Ex.then] at H
  refine cq [(7,_),(8,_),(0,_),(1,_),(2,_)] ?_
  refine T.seq fun K6 hK6=>T.seq fun K7 hK7=>T.region (rM rfl (rp (Pu.bin rfl rfl rfl) (RS.nil (hK7 _ _ ?_))))
  refine T.condP rfl (fun hc8=>?_) (fun hc8=>?_)
  ·have H:=ifT hc8 H
   refine T.skip (hK6 _ _ ?_)
   refine T.seq fun K8 hK8=>T.block (T.seq fun K9 hK9=>T.region (rM rfl (rp (Pu.bin rfl rfl rfl) (rA rfl (RS.nil (hK9 _ _ (cq [(0,_),(1,_),(2,_),(7,_),(8,_),(9,_)] ?_)))))))
   refine T.seq fun K10 hK10=>T.region (rM rfl (rA rfl (RS.nil (hK10 _ _ ?_))))
   refine T.seq fun K11 hK11=>T.seq fun K12 hK12=>T.region (rM rfl (RS.nil (hK12 _ _ ?_)))
   refine T.joinE (σ:=Int) (γ:=Unit) H (fun s=>s) [(0,_),(1,_),(2,_),(7,_),(8,_),(9,_)] ⟨rfl,rfl,rfl,rfl,rfl,rfl,trivial⟩ (fun v10 _=>[(10,.int .i64 v10)]) (fun v10 _=>Sat w [row nilH 67 (rowV q5 l4.length) l4]) ?_ ?_
   ·rintro v10 ⟨⟩ H
    try dsimp only [Ex.then] at H
    refine Cont.conseq (fr':=[(10,_),(0,_),(1,_),(2,_),(7,_),(8,_),(9,_)]) ?_ ⟨rfl,rfl,rfl,rfl,rfl,rfl,rfl,trivial⟩ (fun _ s=>s)
    refine id (hK11 _ _ ?_)
    refine T.seq fun K13 hK13=>T.region (rA rfl (RS.nil (hK13 _ _ ?_)))
    refine T.joinE (σ:=List Prt) (γ:=(Option Nat × Nat)) H (fun s=>s) [(0,_),(1,_),(2,_),(8,_)] ⟨rfl,rfl,rfl,rfl,trivial⟩ (fun v12 q13=>[(7,rowV q13 v12.length)]) (fun v12 q13=>Sat w [row nilH 67 (rowV q13 v12.length) v12]) ?_ ?_
    ·rintro v12 q13 H
     try dsimp only [Ex.then] at H
     refine Cont.conseq (fr':=[(7,_),(0,_),(1,_),(2,_),(8,_)]) ?_ ⟨rfl,rfl,rfl,rfl,rfl,trivial⟩ (fun _ s=>s)
     refine id (hK8 _ _ ?_)
     refine T.region (rM rfl ?_)
     obtain ⟨g14,H⟩:=gdE H
     refine rp (Pu.addS rfl rfl g14) (rA rfl (RS.nil (hL1 _ _ (v12,(v6 + 1)) q13 H ⟨rfl,rfl,rfl,trivial⟩ ⟨rfl,rfl,trivial⟩ (fun w s=>s))))
    ·intro z11 hz11 HX11 hJ11
     refine T.block ?_
     refine T.loopA (γ:=(Option Nat × Nat)) hz11 [(0,_),(1,_),(2,_),(8,_),(9,_),(10,_)] (fun (v15,l16) q17=>[(7,rowV q17 l16.length),(11,.int .i64 v15)]) (fun (v15,l16) q17=>Sat w [row nilH 67 (rowV q17 l16.length) l16]) q5 ⟨rfl,rfl,rfl,rfl,rfl,rfl,trivial⟩ ⟨rfl,rfl,trivial⟩ (fun w s=>s) ?_
     rintro ⟨v15,l16⟩ q17 y18 H hd11 KL11 hL11
     try dsimp only [Ex.then] at H
     refine cq [(7,_),(11,_),(0,_),(1,_),(2,_),(8,_),(9,_),(10,_)] ?_
     refine T.seq fun K14 hK14=>T.seq fun K15 hK15=>T.region (rM rfl (rM rfl (rM rfl ?_)))
     obtain ⟨g19,H⟩:=gdE H
     refine rp (Pu.mulS rfl rfl g19) (rp (Pu.bin rfl rfl rfl) (RS.nil (hK15 _ _ ?_)))
     refine T.condP rfl (fun hc20=>?_) (fun hc20=>?_)
     ·have H:=ifT hc20 H
      refine T.skip (hK14 _ _ (cq [(0,_),(1,_),(2,_),(7,_),(8,_),(9,_),(10,_),(11,_)] ?_))
      refine T.joinA (σ:=List Prt) (γ:=(Option Nat × Nat)) H (fun s=>s) [(0,_),(1,_),(2,_),(8,_),(9,_),(10,_),(11,_)] ⟨rfl,rfl,rfl,rfl,rfl,rfl,rfl,trivial⟩ (fun v22 q23=>[(7,rowV q23 v22.length)]) (fun v22 q23=>Sat w [dead,row nilH 67 (rowV q23 v22.length) v22]) ?_ ?_
      ·rintro v22 q23 H
       try dsimp only [Ex.then] at H
       refine cq [(7,_),(0,_),(1,_),(2,_),(8,_),(9,_),(10,_),(11,_)] ?_
       refine T.region (rM rfl ?_)
       obtain ⟨g24,H⟩:=gdE H
       refine rp (Pu.addS rfl rfl g24) (rA rfl (RS.nil (hL11 _ _ ((v15 + 1),v22) q23 H ⟨rfl,rfl,rfl,rfl,rfl,rfl,trivial⟩ ⟨rfl,rfl,trivial⟩ (fun w s=>s.pick [1] (by decide) rfl))))
      ·intro z21 H HX21 K16 hJ21
       refine T.block (T.seq fun K17 hK17=>T.region (rM rfl (rM rfl (rM rfl (rM rfl (rM rfl ?_))))))
       obtain ⟨x25,hx25,H⟩:=bindE H
       refine rq (Qt.call (vs:=[.int .i64 a0_w,.int .i64 a1_h,.slice p0 a2_free.length c0,.int .i64 v15,.bool (decide (v6 = 1))]) ent85 rfl fun w s=>throngref10_pair_walk a0_w a1_h a2_free v15 (decide (v6 = 1)) w ((Rd.base h0) w s) hx25) (rM rfl (rp (Pu.extract rfl rfl) (rp (Pu.extract rfl rfl) (rA rfl (rA rfl (RS.nil (hK17 _ _ (cq [(0,_),(1,_),(2,_),(7,_),(8,_),(9,_),(10,_),(11,_),(12,_),(13,_)] ?_))))))))
       refine T.seq fun K18 hK18=>T.seq fun K19 hK19=>T.region (rM rfl (rp (Pu.not rfl) (RS.nil (hK19 _ _ ?_))))
       refine T.cond rfl (fun hc26=>?_) (fun hc26=>?_)
       ·have H:=ifT hc26 H
        obtain rfl:=sj H
        refine T.xt (hJ21 _ _ l16 q17 HX21 ⟨rfl,rfl,rfl,rfl,rfl,rfl,rfl,trivial⟩ ⟨rfl,trivial⟩ (fun w s=>(s.deadRow).pick [1,0] (by decide) rfl))
       ·have H:=ifB hc26 H
        refine T.skip (hK18 _ _ (cq [(0,_),(1,_),(2,_),(7,_),(8,_),(9,_),(10,_),(11,_),(12,_)] ?_))
        refine T.seq fun K20 hK20=>T.seq fun K21 hK21=>T.region (rM rfl (rM rfl ?_))
        obtain ⟨g27,H⟩:=gdE H
        refine rp (Pu.subS rfl rfl g27) (rp (Pu.bin rfl rfl rfl) (rM rfl ?_))
        obtain ⟨g30,H⟩:=gdE H
        refine RS.joinV 9 60 (.bool (decide ((0 ≤ (v15 - v10))∧((¬ (v6 = 1)) ∨ (0 < (v15 % a0_w)))))) [(0,_),(1,_),(2,_),(7,_),(8,_),(9,_),(10,_),(11,_),(12,_)] ⟨rfl,rfl,rfl,rfl,rfl,rfl,rfl,rfl,rfl,trivial⟩ ?_ ?_
        ·refine RS.nil (hK21 _ _ ?_)
         refine T.joinE (σ:=Unit) (γ:=Unit) H Ex.go [(0,_),(1,_),(2,_),(7,_),(8,_),(9,_),(10,_),(11,_),(12,_)] ⟨rfl,rfl,rfl,rfl,rfl,rfl,rfl,rfl,rfl,trivial⟩ (fun _ _=>[]) (fun _ _=>Sat w [row nilH 67 (rowV q17 l16.length) l16]) ?_ ?_
         ·rintro ⟨⟩ ⟨⟩ H
          try dsimp only [Ex.then] at H
          refine Cont.conseq (fr':=[(0,_),(1,_),(2,_),(7,_),(8,_),(9,_),(10,_),(11,_),(12,_)]) ?_ ⟨rfl,rfl,rfl,rfl,rfl,rfl,rfl,rfl,rfl,trivial⟩ (fun _ s=>s)
          refine id (hK20 _ _ ?_)
          refine T.seq fun K22 hK22=>T.region (rA rfl (RS.nil (hK22 _ _ ?_)))
          refine T.joinA (σ:=Int) (γ:=Unit) H (fun s=>s) [(0,_),(1,_),(2,_),(7,_),(8,_),(9,_),(10,_),(11,_),(12,_)] ⟨rfl,rfl,rfl,rfl,rfl,rfl,rfl,rfl,rfl,trivial⟩ (fun v33 _=>[(16,.int .i64 v33)]) (fun v33 _=>Sat w [row nilH 67 (rowV q17 l16.length) l16]) ?_ ?_
          ·rintro v33 ⟨⟩ H
           try dsimp only [Ex.then] at H
           refine cq [(16,_),(0,_),(1,_),(2,_),(7,_),(8,_),(9,_),(10,_),(11,_),(12,_)] ?_
           refine T.seq fun K24 hK24=>T.region (rM rfl ?_)
           obtain ⟨g34,H⟩:=gdE H
           refine rp (Pu.subS rfl rfl g34) ?_
           obtain ⟨g35,H⟩:=gdE H
           refine rp (Pu.quoN rfl rfl ⟨g35.1,g35.2,by decide⟩) (rM rfl ?_)
           obtain ⟨g36,H⟩:=gdE H
           refine rp (Pu.mulS rfl rfl g36) (rA rfl (RS.nil (hK24 _ _ (cq [(0,_),(1,_),(2,_),(7,_),(8,_),(9,_),(10,_),(11,_),(12,_),(16,_),(20,_)] ?_))))
           refine T.region (rM rfl (rM rfl (rM rfl ?_)))
           obtain ⟨g37,H⟩:=gdE H
           refine rp (Pu.addS rfl rfl g37) (rM rfl (rM rfl ?_))
           obtain ⟨g38,H⟩:=gdE H
           refine rp (Pu.addS rfl rfl g38) (rM rfl (rp (Pu.build (cells:=[_,_,_]) st67 rfl rfl) ?_))
           obtain ⟨x39,hx39,H⟩:=bindE H
           refine RS.solid (Sd.callN (vs:=[rowV q17 l16.length,.agg #[.int .i64 (v15 + (((v33 - 1) / 2) * v10)),.int .i64 (x25.1 + (((v33 - 1) / 2) * v10)),.int .i64 v33]]) ent86 rfl (fun w s=>throngref10_with_walk l16 (⟨(v15 + (((v33 - 1) / 2) * v10)),(x25.1 + (((v33 - 1) / 2) * v10)),v33⟩:Prt) w ((Rd.ofRowN 0 rfl) w s) hx39)) rfl rfl fun q40=>rA rfl ?_
           obtain rfl:=sj H
           refine RS.nil (hJ21 _ _ x39 q40 HX21 ⟨rfl,rfl,rfl,rfl,rfl,rfl,rfl,trivial⟩ ⟨rfl,trivial⟩ (fun w s=>(s.deadRow).pick [2,1] (by decide) rfl))
          ·intro z32 hz32 HX32 K23 hJ32
           refine T.block ?_
           refine T.loopA (γ:=Unit) hz32 [(0,_),(1,_),(2,_),(7,_),(8,_),(9,_),(10,_),(11,_),(12,_)] (fun v41 _=>[(16,.int .i64 v41)]) (fun v41 _=>Sat w [row nilH 67 (rowV q17 l16.length) l16]) () ⟨rfl,rfl,rfl,rfl,rfl,rfl,rfl,rfl,rfl,trivial⟩ ⟨rfl,trivial⟩ (fun w s=>s) ?_
           rintro v41 ⟨⟩ y42 H hd32 KL32 hL32
           try dsimp only [Ex.then] at H
           refine cq [(16,_),(0,_),(1,_),(2,_),(7,_),(8,_),(9,_),(10,_),(11,_),(12,_)] ?_
           refine T.block (T.seq fun K25 hK25=>T.region (rM rfl (rM rfl (rM rfl ?_))))
           obtain ⟨g43,H⟩:=gdE H
           refine rp (Pu.mulS rfl rfl g43) ?_
           obtain ⟨g44,H⟩:=gdE H
           refine rp (Pu.addS rfl rfl g44) (rA rfl (RS.nil (hK25 _ _ (cq [(0,_),(1,_),(2,_),(7,_),(8,_),(9,_),(10,_),(11,_),(12,_),(16,_),(17,_)] ?_))))
           refine T.seq fun K26 hK26=>T.seq fun K27 hK27=>?_
           refine T.drawn (fun _=>True) [(0,.pu),(1,.pu),(2,.pu),(3,.pu),(4,.pu),(5,.pu),(6,.pu),(7,.pu),(8,.pu),(9,.pu),(10,.pu),(11,.pu),(12,.pu),(13,.pu),(14,.pu),(15,.pu),(16,.pu)] mixed (ClE.sat _ _) (by kernel_rfl) ?_
           refine dp rfl (Pu.move rfl) (dp rfl (Pu.move rfl) (dp rfl (Pu.move rfl) ?_))
           obtain ⟨g45,H⟩:=gdE H
           refine dp rfl (Pu.mulS rfl rfl g45) (dp rfl (Pu.bin rfl rfl rfl) (dp rfl (Pu.move rfl) ?_))
           obtain ⟨g48,H⟩:=gdE H
           obtain ⟨g49,H⟩:=gdE H
           refine RD.joinV 11 114 (.bool (decide (((a0_w * a1_h) ≤ (v15 + (v41 * v10))) ∨ ((v6 = 1)∧(¬ ((v15 + (v41 * v10)) / a0_w) = (v15 / a0_w)))))) [(0,_),(1,_),(2,_),(7,_),(8,_),(9,_),(10,_),(11,_),(12,_),(16,_),(17,_)] ⟨rfl,rfl,rfl,rfl,rfl,rfl,rfl,rfl,rfl,rfl,rfl,trivial⟩ ?_ ?_
           ·refine RD.nil (hK27 _ _ ?_)
            refine T.condP rfl (fun hc50=>?_) (fun hc50=>?_)
            ·have H:=ifT hc50 H
             obtain rfl:=hd32 _ H
             refine T.xt (hJ32 _ _ v41 () HX32 ⟨rfl,rfl,rfl,rfl,rfl,rfl,rfl,rfl,rfl,trivial⟩ ⟨rfl,trivial⟩ (fun w s=>s))
            ·have H:=ifF hc50 H
             refine T.skip (hK26 _ _ ?_)
             refine T.seq fun K28 hK28=>T.region (rM rfl (rM rfl (rM rfl (rM rfl (rM rfl ?_)))))
             obtain ⟨x51,hx51,H⟩:=bindE H
             refine rq (Qt.call (vs:=[.int .i64 a0_w,.int .i64 a1_h,.slice p0 a2_free.length c0,.int .i64 (v15 + (v41 * v10)),.bool (decide (v6 = 1))]) ent85 rfl fun w s=>throngref10_pair_walk a0_w a1_h a2_free (v15 + (v41 * v10)) (decide (v6 = 1)) w ((Rd.base h0) w s) hx51) (rM rfl (rp (Pu.extract rfl rfl) (rp (Pu.extract rfl rfl) (rA rfl (rA rfl (RS.nil (hK28 _ _ (cq [(0,_),(1,_),(2,_),(7,_),(8,_),(9,_),(10,_),(11,_),(12,_),(16,_),(17,_),(18,_),(19,_)] ?_))))))))
             refine T.seq fun K29 hK29=>T.seq fun K30 hK30=>T.region (rM rfl (rp (Pu.not rfl) (rM rfl ?_)))
             refine RS.joinB H 8 134 (fun b54=>.bool b54) [(0,_),(1,_),(2,_),(7,_),(8,_),(9,_),(10,_),(11,_),(12,_),(16,_),(18,_)] ⟨rfl,rfl,rfl,rfl,rfl,rfl,rfl,rfl,rfl,rfl,rfl,trivial⟩ ?_ ?_
             ·intro b54 H
              refine rM rfl ?_
              refine RS.joinB H 8 143 (fun b57=>.bool b57) [(0,_),(1,_),(2,_),(7,_),(8,_),(9,_),(10,_),(11,_),(12,_),(16,_)] ⟨rfl,rfl,rfl,rfl,rfl,rfl,rfl,rfl,rfl,rfl,trivial⟩ ?_ ?_
              ·intro b57 H
               refine RS.nil (hK30 _ _ ?_)
               refine T.cond rfl (fun hc58=>?_) (fun hc58=>?_)
               ·have H:=ifT hc58 H
                obtain rfl:=hd32 _ H
                refine T.xt (hJ32 _ _ v41 () HX32 ⟨rfl,rfl,rfl,rfl,rfl,rfl,rfl,rfl,rfl,trivial⟩ ⟨rfl,trivial⟩ (fun w s=>s))
               ·have H:=ifB hc58 H
                refine T.skip (hK29 _ _ ?_)
                refine T.region (rM rfl ?_)
                obtain ⟨g59,H⟩:=gdE H
                refine rp (Pu.addS rfl rfl g59) (rA rfl (RS.nil (hL32 _ _ (v41 + 1) () H ⟨rfl,rfl,rfl,rfl,rfl,rfl,rfl,rfl,rfl,trivial⟩ ⟨rfl,trivial⟩ (fun w s=>s))))
              ·intro z60 H hJ56
               refine RS.split 135 rfl (fun hc55=>?_) (fun hc55=>?_)
               ·have H:=ifT hc55 H
                refine ro (ro (ro (ro (ro (ro (ro (rp (Pu.pickT rfl rfl) ?_)))))))
                obtain rfl:=sj H
                exact hJ56 _ _ ⟨rfl,rfl,rfl,rfl,rfl,rfl,rfl,rfl,rfl,rfl,rfl,trivial⟩ (fun w s=>s)
               ·have H:=ifB hc55 H
                refine rM rfl (rM rfl ?_)
                obtain ⟨x61,hx61,H⟩:=bindE H
                refine rq (Qt.call (vs:=[.int .i64 a0_w,.int .i64 x51.1]) ent32 rfl fun w s=>throngref10_Of_walk a0_w x51.1 w  hx61) (rM rfl (rM rfl ?_))
                obtain ⟨x62,hx62,H⟩:=bindE H
                refine rq (Qt.call (vs:=[.int .i64 a0_w,.int .i64 x25.1]) ent32 rfl fun w s=>throngref10_Of_walk a0_w x25.1 w  hx62) (rp (Pu.bin rfl rfl rfl) (rp (Pu.pickF rfl rfl) ?_))
                obtain rfl:=sj H
                exact hJ56 _ _ ⟨rfl,rfl,rfl,rfl,rfl,rfl,rfl,rfl,rfl,rfl,rfl,trivial⟩ (fun w s=>s)
             ·intro z63 H hJ53
              refine RS.split 126 rfl (fun hc52=>?_) (fun hc52=>?_)
              ·have H:=ifT hc52 H
               refine ro (ro (ro (ro (ro (ro (ro (rp (Pu.pickT rfl rfl) ?_)))))))
               obtain rfl:=sj H
               exact hJ53 _ _ ⟨rfl,rfl,rfl,rfl,rfl,rfl,rfl,rfl,rfl,rfl,rfl,rfl,trivial⟩ (fun w s=>s)
              ·have H:=ifB hc52 H
               refine rM rfl (rM rfl ?_)
               obtain ⟨x64,hx64,H⟩:=bindE H
               refine rq (Qt.call (vs:=[.int .i64 a0_w,.int .i64 (v15 + (v41 * v10))]) ent32 rfl fun w s=>throngref10_Of_walk a0_w (v15 + (v41 * v10)) w  hx64) (rM rfl (rM rfl ?_))
               obtain ⟨x65,hx65,H⟩:=bindE H
               refine rq (Qt.call (vs:=[.int .i64 a0_w,.int .i64 v15]) ent32 rfl fun w s=>throngref10_Of_walk a0_w v15 w  hx65) (rp (Pu.bin rfl rfl rfl) (rp (Pu.pickF rfl rfl) ?_))
               obtain rfl:=sj H
               exact hJ53 _ _ ⟨rfl,rfl,rfl,rfl,rfl,rfl,rfl,rfl,rfl,rfl,rfl,rfl,trivial⟩ (fun w s=>s)
           ·intro hJ47
            refine RD.splitP 103 rfl (fun hc46=>?_) (fun hc46=>?_)
            ·refine dn rfl (dn rfl (dn rfl (dn rfl (dn rfl (dn rfl (dn rfl (dn rfl (dn rfl (dn rfl (dp rfl (Pu.pickT rfl rfl) ?_))))))))))
             exact hJ47 _ ⟨dOrT hc46,rfl,rfl,rfl,rfl,rfl,rfl,rfl,rfl,rfl,rfl,rfl,trivial⟩
            ·refine dp rfl (Pu.move rfl) (dp rfl (Pu.move rfl) ?_)
             refine RD.joinV 8 113 (.bool (decide ((v6 = 1)∧(¬ ((v15 + (v41 * v10)) / a0_w) = (v15 / a0_w))))) [(0,_),(1,_),(2,_),(7,_),(8,_),(9,_),(10,_),(11,_),(12,_),(16,_),(17,_),(98,_),(99,_),(100,_),(101,_),(102,_),(103,_),(104,_)] ⟨rfl,rfl,rfl,rfl,rfl,rfl,rfl,rfl,rfl,rfl,rfl,rfl,rfl,rfl,rfl,rfl,rfl,rfl,trivial⟩ ?_ ?_
             ·refine dp rfl (Pu.pickF rfl rfl) ?_
              exact hJ47 _ ⟨dOrF hc46,rfl,rfl,rfl,rfl,rfl,rfl,rfl,rfl,rfl,rfl,rfl,trivial⟩
             ·intro hJ67
              refine RD.splitP 105 rfl (fun hc66=>?_) (fun hc66=>?_)
              ·refine dp rfl (Pu.move rfl) (dp rfl (Pu.move rfl) (dp rfl (Pu.quoN rfl rfl ((g48 hc46) hc66)) (dp rfl (Pu.move rfl) (dp rfl (Pu.move rfl) (dp rfl (Pu.quoN rfl rfl ((g49 hc46) hc66)) (dp rfl (Pu.bin rfl rfl rfl) (dp rfl (Pu.pickT rfl rfl) ?_)))))))
               exact hJ67 _ ⟨dAndT hc66,rfl,rfl,rfl,rfl,rfl,rfl,rfl,rfl,rfl,rfl,rfl,rfl,rfl,rfl,rfl,rfl,rfl,rfl,trivial⟩
              ·refine dn rfl (dn rfl (dn rfl (dn rfl (dn rfl (dn rfl (dn rfl (dp rfl (Pu.pickF rfl rfl) ?_)))))))
               exact hJ67 _ ⟨dAndF hc66,rfl,rfl,rfl,rfl,rfl,rfl,rfl,rfl,rfl,rfl,rfl,rfl,rfl,rfl,rfl,rfl,rfl,rfl,trivial⟩
         ·intro z31 H HX31 hJ31
          refine T.condP rfl (fun hc68=>?_) (fun hc68=>?_)
          ·have H:=ifT hc68 H
           refine T.seq fun K31 hK31=>T.region (rM rfl (rM rfl (rM rfl (rM rfl (rM rfl ?_)))))
           obtain ⟨g69,H⟩:=gdE H
           refine rp (Pu.subS rfl rfl g69) (rM rfl ?_)
           obtain ⟨x70,hx70,H⟩:=bindE H
           refine rq (Qt.call (vs:=[.int .i64 a0_w,.int .i64 a1_h,.slice p0 a2_free.length c0,.int .i64 (v15 - v10),.bool (decide (v6 = 1))]) ent85 rfl fun w s=>throngref10_pair_walk a0_w a1_h a2_free (v15 - v10) (decide (v6 = 1)) w ((Rd.base h0) w s) hx70) (rM rfl (rp (Pu.extract rfl rfl) (rp (Pu.extract rfl rfl) (rA rfl (rA rfl (RS.nil (hK31 _ _ (cq [(0,_),(1,_),(2,_),(7,_),(8,_),(9,_),(10,_),(11,_),(12,_),(14,_),(15,_)] ?_))))))))
           refine T.seq fun K32 hK32=>T.region (rM rfl (rM rfl ?_))
           refine RS.joinB H 10 83 (fun b73=>.bool b73) [(0,_),(1,_),(2,_),(7,_),(8,_),(9,_),(10,_),(11,_),(12,_),(14,_)] ⟨rfl,rfl,rfl,rfl,rfl,rfl,rfl,rfl,rfl,rfl,trivial⟩ ?_ ?_
           ·intro b73 H
            refine rM rfl ?_
            refine RS.joinB H 8 92 (fun b76=>.bool b76) [(0,_),(1,_),(2,_),(7,_),(8,_),(9,_),(10,_),(11,_),(12,_)] ⟨rfl,rfl,rfl,rfl,rfl,rfl,rfl,rfl,rfl,trivial⟩ ?_ ?_
            ·intro b76 H
             refine RS.nil (hK32 _ _ ?_)
             refine T.cond rfl (fun hc77=>?_) (fun hc77=>?_)
             ·have H:=ifT hc77 H
              obtain rfl:=sj H
              have H:=HX31
              obtain rfl:=sj H
              refine T.xt (hJ21 _ _ l16 q17 HX21 ⟨rfl,rfl,rfl,rfl,rfl,rfl,rfl,trivial⟩ ⟨rfl,trivial⟩ (fun w s=>(s.deadRow).pick [1,0] (by decide) rfl))
             ·have H:=ifB hc77 H
              obtain rfl:=sj H
              refine T.skip (hJ31 _ _ () () HX31 ⟨rfl,rfl,rfl,rfl,rfl,rfl,rfl,rfl,rfl,trivial⟩ trivial (fun w s=>s))
            ·intro z78 H hJ75
             refine RS.split 84 rfl (fun hc74=>?_) (fun hc74=>?_)
             ·have H:=ifT hc74 H
              refine rM rfl (rM rfl ?_)
              obtain ⟨x79,hx79,H⟩:=bindE H
              refine rq (Qt.call (vs:=[.int .i64 a0_w,.int .i64 x70.1]) ent32 rfl fun w s=>throngref10_Of_walk a0_w x70.1 w  hx79) (rM rfl (rM rfl ?_))
              obtain ⟨x80,hx80,H⟩:=bindE H
              refine rq (Qt.call (vs:=[.int .i64 a0_w,.int .i64 x25.1]) ent32 rfl fun w s=>throngref10_Of_walk a0_w x25.1 w  hx80) (rp (Pu.bin rfl rfl rfl) (rp (Pu.pickT rfl rfl) ?_))
              obtain rfl:=sj H
              exact hJ75 _ _ ⟨rfl,rfl,rfl,rfl,rfl,rfl,rfl,rfl,rfl,rfl,trivial⟩ (fun w s=>s)
             ·have H:=ifB hc74 H
              refine ro (ro (ro (ro (ro (ro (ro (rp (Pu.pickF rfl rfl) ?_)))))))
              obtain rfl:=sj H
              exact hJ75 _ _ ⟨rfl,rfl,rfl,rfl,rfl,rfl,rfl,rfl,rfl,rfl,trivial⟩ (fun w s=>s)
           ·intro z81 H hJ72
            refine RS.split 73 rfl (fun hc71=>?_) (fun hc71=>?_)
            ·have H:=ifT hc71 H
             refine rM rfl (rM rfl (rM rfl ?_))
             obtain ⟨g82,H⟩:=gdE H
             refine rp (Pu.subS rfl rfl g82) ?_
             obtain ⟨x83,hx83,H⟩:=bindE H
             refine rq (Qt.call (vs:=[.int .i64 a0_w,.int .i64 (v15 - v10)]) ent32 rfl fun w s=>throngref10_Of_walk a0_w (v15 - v10) w  hx83) (rM rfl (rM rfl ?_))
             obtain ⟨x84,hx84,H⟩:=bindE H
             refine rq (Qt.call (vs:=[.int .i64 a0_w,.int .i64 v15]) ent32 rfl fun w s=>throngref10_Of_walk a0_w v15 w  hx84) (rp (Pu.bin rfl rfl rfl) (rp (Pu.pickT rfl rfl) ?_))
             obtain rfl:=sj H
             exact hJ72 _ _ ⟨rfl,rfl,rfl,rfl,rfl,rfl,rfl,rfl,rfl,rfl,rfl,trivial⟩ (fun w s=>s)
            ·have H:=ifB hc71 H
             refine ro (ro (ro (ro (ro (ro (ro (ro (ro (rp (Pu.pickF rfl rfl) ?_)))))))))
             obtain rfl:=sj H
             exact hJ72 _ _ ⟨rfl,rfl,rfl,rfl,rfl,rfl,rfl,rfl,rfl,rfl,rfl,trivial⟩ (fun w s=>s)
          ·have H:=ifF hc68 H
           obtain rfl:=sj H
           refine T.skip (hJ31 _ _ () () HX31 ⟨rfl,rfl,rfl,rfl,rfl,rfl,rfl,rfl,rfl,trivial⟩ trivial (fun w s=>s))
        ·intro hJ29
         refine RS.splitP 51 rfl (fun hc28=>?_) (fun hc28=>?_)
         ·refine rM rfl (rp (Pu.notP rfl) (rM rfl ?_))
          refine RS.joinV 5 59 (.bool (decide ((¬ (v6 = 1)) ∨ (0 < (v15 % a0_w))))) [(0,_),(1,_),(2,_),(7,_),(8,_),(9,_),(10,_),(11,_),(12,_),(47,_),(48,_),(49,_),(50,_),(51,_),(52,_),(53,_)] ⟨rfl,rfl,rfl,rfl,rfl,rfl,rfl,rfl,rfl,rfl,rfl,rfl,rfl,rfl,rfl,rfl,trivial⟩ ?_ ?_
          ·refine rp (Pu.pickT rfl rfl) ?_
           exact hJ29 _ _ ⟨dAndT hc28,rfl,rfl,rfl,rfl,rfl,rfl,rfl,rfl,rfl,trivial⟩ (fun w s=>s)
          ·intro hJ86
           refine RS.splitP 54 rfl (fun hc85=>?_) (fun hc85=>?_)
           ·refine ro (ro (ro (ro (rp (Pu.pickT rfl rfl) ?_))))
            exact hJ86 _ _ ⟨dOrT hc85,rfl,rfl,rfl,rfl,rfl,rfl,rfl,rfl,rfl,rfl,rfl,rfl,rfl,rfl,rfl,rfl,trivial⟩ (fun w s=>s)
           ·refine rM rfl (rM rfl (rp (Pu.remN rfl rfl (and3 ((g30 hc28) hc85))) (rp (Pu.bin rfl rfl rfl) (rp (Pu.pickF rfl rfl) ?_))))
            exact hJ86 _ _ ⟨dOrF hc85,rfl,rfl,rfl,rfl,rfl,rfl,rfl,rfl,rfl,rfl,rfl,rfl,rfl,rfl,rfl,rfl,trivial⟩ (fun w s=>s)
         ·refine ro (ro (ro (ro (ro (ro (ro (ro (rp (Pu.pickF rfl rfl) ?_))))))))
          exact hJ29 _ _ ⟨dAndF hc28,rfl,rfl,rfl,rfl,rfl,rfl,rfl,rfl,rfl,trivial⟩ (fun w s=>s)
     ·have H:=ifF hc20 H
      obtain rfl:=hd11 _ H
      refine T.xt (hJ11 _ _ l16 q17 HX11 ⟨rfl,rfl,rfl,rfl,trivial⟩ ⟨rfl,trivial⟩ (fun w s=>s))
   ·intro z9 H HX9 hJ9
    refine T.condP rfl (fun hc87=>?_) (fun hc87=>?_)
    ·have H:=ifT hc87 H
     refine cq [(0,_),(1,_),(2,_),(7,_),(8,_),(9,_)] ?_
     refine T.region (rA rfl ?_)
     obtain rfl:=sj H
     refine RS.nil (hJ9 _ _ 1 () HX9 ⟨rfl,rfl,rfl,rfl,rfl,rfl,trivial⟩ ⟨rfl,trivial⟩ (fun w s=>s))
    ·have H:=ifF hc87 H
     obtain rfl:=sj H
     refine T.skip (hJ9 _ _ a0_w () HX9 ⟨rfl,rfl,rfl,rfl,rfl,rfl,trivial⟩ ⟨rfl,trivial⟩ (fun w s=>s))
  ·have H:=ifF hc8 H
   obtain rfl:=hd1 _ H
   refine T.xt (hJ1 _ _ l4 q5 HX1 trivial ⟨rfl,trivial⟩ (fun w s=>s))
theorem throngref13_ends_walk (a0_ps:List Prt) (w:World) {v0:Value} (h0:R (hpOf w) a0_ps [v0]) {r:List Int} (H:throngref13_ends a0_ps = some r):Calls Tryz.prog 52 #[v0] w fun e w'=>∃ q1:(Option Nat × Nat),e = .returned (rowV q1 r.length)∧Sat w [row nilH 3 (rowV q1 r.length) r] w':=by
 have hm0:=R_max h0
 obtain ⟨p0,c0,rfl⟩:=R_form h0
 unfold throngref13_ends at H
 refine T.enter (args:=[_]) (S:=Sat w []) Tryz.func52 rfl rfl (Sat.start w) ?_
 refine T.seq fun K1 hK1=>T.region (rA rfl (RS.nil (hK1 _ _ ?_)))
 refine T.seq fun K2 hK2=>T.region (rA rfl (RS.nil (hK2 _ _ ?_)))
 refine T.seq fun K3 hK3=>T.seq fun K4 hK4=>T.region (rA rfl (RS.nil (hK4 _ _ ?_)))
 refine T.joinE (σ:=List Int) (γ:=(Option Nat × Nat)) H (fun s=>s) [] trivial (fun v2 q3=>[(3,rowV q3 v2.length)]) (fun v2 q3=>Sat w [row nilH 3 (rowV q3 v2.length) v2]) ?_ ?_
 ·rintro v2 q3 H
  try dsimp only [Ex.then] at H
  refine Cont.conseq (fr':=[(3,_)]) ?_ ⟨rfl,trivial⟩ (fun _ s=>s)
  refine id (hK3 _ _ ?_)
  refine T.seq fun K5 hK5=>T.region (rM rfl (rA rfl (RS.nil (hK5 _ _ ?_))))
  obtain rfl:=sj H
  refine T.rt (Cont.ret1 rfl rfl fun w' s=>?_)
  exact ⟨q3,rfl,s.pick [0] (by decide) rfl⟩
 ·intro z1 hz1 HX1 hJ1
  refine T.block ?_
  refine T.loopA (γ:=(Option Nat × Nat)) hz1 [(0,_)] (fun (l4,v6) q5=>[(3,rowV q5 l4.length),(4,.int .i64 v6)]) (fun (l4,v6) q5=>Sat w [row nilH 3 (rowV q5 l4.length) l4]) (none,0) ⟨rfl,trivial⟩ ⟨rfl,rfl,trivial⟩ (fun w s=>(s.nilRow (α:=Int) 3).pick [0] (by decide) rfl) ?_
  rintro ⟨l4,v6⟩ q5 y7 H hd1 KL1 hL1
  try dsimp only [Ex.then] at H
  refine cq [(3,_),(4,_),(0,_)] ?_
  refine T.seq fun K6 hK6=>T.seq fun K7 hK7=>T.region (rM rfl (rM rfl (rp (Pu.lenSl sl62 rfl) (rp (Pu.bin rfl rfl rfl) (RS.nil (hK7 _ _ ?_))))))
  refine T.condP rfl (fun hc8=>?_) (fun hc8=>?_)
  ·have H:=ifT hc8 H
   refine T.skip (hK6 _ _ (cq [(0,_),(3,_),(4,_)] ?_))
   refine T.seq fun K8 hK8=>T.block ?_
   refine T.drawnS [] [(0,.pu),(1,.pu),(2,.pu),(3,.pu),(4,.pu),(5,.wk),(6,.pu),(7,.pu),(8,.pu),(9,.pu),(10,.wk),(11,.so),(12,.br),(13,.pu)] mixed (by kernel_rfl) rfl ?_
   refine RD.p (fun w s=>s.pick [] (by decide) rfl) rfl (Pu.move rfl) rfl rfl (RD.p (fun w s=>s.pick [] (by decide) rfl) rfl (Pu.move rfl) rfl rfl (RD.p (fun w s=>s.pick [] (by decide) rfl) rfl (Pu.move rfl) rfl rfl ?_))
   obtain ⟨g9,H⟩:=gdE H
   obtain ⟨bl10,ol11,rfl⟩:=R_ptr h0 (ne_of_pos (pos_of g9))
   refine RD.p (fun w s=>s.pick [] (by decide) rfl) rfl (Pu.indexSl sl62 rfl rfl g9) rfl rfl (RD.p (fun w s=>s.pick [] (by decide) rfl) rfl (Pu.fieldAddr fd67_0 rfl) rfl rfl ?_)
   refine RD.w (fun w s=>s.pick [] (by decide) rfl) rfl (Qt.ldF (α:=Prt) (Rd.base h0) ty3 rfl rfl g9 (by rintro _ _ rfl; rfl)) rfl rfl ?_
   refine RD.p (fun w s=>s.pick [] (by decide) rfl) rfl (Pu.move rfl) rfl rfl (RD.p (fun w s=>s.pick [] (by decide) rfl) rfl (Pu.move rfl) rfl rfl ?_)
   obtain ⟨g12,H⟩:=gdE H
   refine RD.p (fun w s=>s.pick [] (by decide) rfl) rfl (Pu.indexSl sl62 rfl rfl g12) rfl rfl (RD.p (fun w s=>s.pick [] (by decide) rfl) rfl (Pu.fieldAddr fd67_1 rfl) rfl rfl ?_)
   refine RD.w (fun w s=>s.pick [] (by decide) rfl) rfl (Qt.ldF (α:=Prt) (Rd.base h0) ty3 rfl rfl g12 (by rintro _ _ rfl; rfl)) rfl rfl ?_
   refine RD.solid rfl (.inl rfl) rfl rfl (Sd.litS (cs:=[_,_]) sl23 zr3 rfl rfl rfl rfl rfl) (fun _=>ClE.sat _ _) (fun _ w s=>s.pick [] (by decide) rfl) (fun _ _ _ s=>s.drop1) fun b13=>?_
   obtain ⟨g15,H⟩:=gdE H
   refine RD.solid rfl (.inr rfl) rfl rfl (Sd.appR (α:=Int) 0 (nilH_lt _) rfl sl23 zr3 rfl rfl rfl (Rd.ofLit (α:=Int) (n:=2) (xs:=[(gi a0_ps v6).a,(gi a0_ps v6).b]) 1 rfl (by decide) rfl ⟨[_],_,rfl,rfl,⟨[_],_,rfl,rfl,rfl⟩⟩) g15 (by decide)) (fun _=>ClE.sat _ _) (fun _ w s=>s.pick [] (by decide) rfl) (fun h=>nomatch h) fun q14=>?_
   refine RD.p (fun w s=>s.pick [] (by decide) rfl) rfl (Pu.assign rfl) rfl rfl (RD.nil (hK8 _ _ (cq [(0,_),(3,_),(4,_)] ?_)))
   refine T.region (rM rfl ?_)
   obtain ⟨g16,H⟩:=gdE H
   refine rp (Pu.addS rfl rfl g16) (rA rfl (RS.nil (hL1 _ _ ((l4 ++ [(gi a0_ps v6).a,(gi a0_ps v6).b]),(v6 + 1)) q14 H ⟨rfl,trivial⟩ ⟨rfl,rfl,trivial⟩ (fun w s=>s.pick [0] (by decide) rfl))))
  ·have H:=ifF hc8 H
   obtain rfl:=hd1 _ H
   refine T.xt (hJ1 _ _ l4 q5 HX1 trivial ⟨rfl,trivial⟩ (fun w s=>s))
theorem throngref13_better_walk (a0_a:PWay) (a1_b:PWay) (w:World) {r:Bool} (H:throngref13_better a0_a a1_b = some r):Calls Tryz.prog 54 #[.agg #[.int .i64 a0_a.cost,.int .i64 a0_a.count,.bool a0_a.no],.agg #[.int .i64 a1_b.cost,.int .i64 a1_b.count,.bool a1_b.no]] w fun e w'=>e = .returned (.bool r)∧Ext w w':=by
 unfold throngref13_better at H
 refine T.enter (args:=[_,_]) (S:=Sat w []) Tryz.func54 rfl rfl (Sat.start w) ?_
 refine T.seq fun K1 hK1=>T.region (RS.solid (Sd.box (cs:=[_,_,_]) rfl rfl) rfl rfl fun b1=>RS.solid (Sd.box (cs:=[_,_,_]) rfl rfl) rfl rfl fun b2=>rA rfl (RS.nil (hK1 _ _ (cq [(2,_),(3,_)] ?_))))
 refine T.seq fun K2 hK2=>T.seq fun K3 hK3=>T.region (rp (Pu.fieldAddr fd95_2 rfl) (rq (Qt.ldB 0 ty4 rfl rfl rfl) (rM rfl ?_)))
 refine RS.joinV 3 10 (.bool (decide ((a0_a.no = true) ∨ (a1_b.no = true)))) [(2,_),(3,_)] ⟨rfl,rfl,trivial⟩ ?_ ?_
 ·refine RS.nil (hK3 _ _ ?_)
  refine T.condP rfl (fun hc5=>?_) (fun hc5=>?_)
  ·have H:=ifT hc5 H
   refine T.seq fun K4 hK4=>T.region (rp (Pu.fieldAddr fd95_2 rfl) (rq (Qt.ldB 0 ty4 rfl rfl rfl) (rp (Pu.not rfl) (rM rfl ?_))))
   refine RS.joinV 3 17 (.bool (decide (((!a0_a.no) = true)∧(a1_b.no = true)))) [] trivial ?_ ?_
   ·refine rA rfl (RS.nil (hK4 _ _ ?_))
    obtain rfl:=sj H
    refine T.rt (Cont.ret1 rfl rfl fun w' s=>?_)
    exact ⟨rfl,s.ext⟩
   ·intro hJ7
    refine RS.split 14 rfl (fun hc6=>?_) (fun hc6=>?_)
    ·refine rp (Pu.fieldAddr fd95_2 rfl) (rq (Qt.ldB 1 ty4 rfl rfl rfl) (rp (Pu.pickT rfl rfl) ?_))
     exact hJ7 _ _ ⟨dAndTB hc6,trivial⟩ (fun w s=>s)
    ·refine ro (ro (rp (Pu.pickF rfl rfl) ?_))
     exact hJ7 _ _ ⟨dAndF (bne_of hc6),trivial⟩ (fun w s=>s)
  ·have H:=ifF hc5 H
   refine T.skip (hK2 _ _ ?_)
   refine T.seq fun K5 hK5=>T.region (rp (Pu.fieldAddr fd95_0 rfl) (rq (Qt.ldB 0 ty3 rfl rfl rfl) (rp (Pu.fieldAddr fd95_0 rfl) (rq (Qt.ldB 1 ty3 rfl rfl rfl) (rp (Pu.bin rfl rfl rfl) (rM rfl ?_))))))
   refine RS.joinV 13 36 (.bool (decide ((a0_a.cost < a1_b.cost) ∨ ((a0_a.cost = a1_b.cost)∧(a0_a.count < a1_b.count))))) [] trivial ?_ ?_
   ·refine rA rfl (RS.nil (hK5 _ _ ?_))
    obtain rfl:=sj H
    refine T.rt (Cont.ret1 rfl rfl fun w' s=>?_)
    exact ⟨rfl,s.ext⟩
   ·intro hJ9
    refine RS.splitP 23 rfl (fun hc8=>?_) (fun hc8=>?_)
    ·refine ro (ro (ro (ro (ro (ro (ro (ro (ro (ro (ro (ro (rp (Pu.pickT rfl rfl) ?_))))))))))))
     exact hJ9 _ _ ⟨dOrT hc8,trivial⟩ (fun w s=>s)
    ·refine rp (Pu.fieldAddr fd95_0 rfl) (rq (Qt.ldB 0 ty3 rfl rfl rfl) (rp (Pu.fieldAddr fd95_0 rfl) (rq (Qt.ldB 1 ty3 rfl rfl rfl) (rp (Pu.bin rfl rfl rfl) (rM rfl ?_)))))
     refine RS.joinV 6 35 (.bool (decide ((a0_a.cost = a1_b.cost)∧(a0_a.count < a1_b.count)))) [(2,_),(3,_),(10,_),(18,_),(19,_),(20,_),(21,_),(22,_),(23,_),(24,_),(25,_),(26,_),(27,_),(28,_)] ⟨rfl,rfl,rfl,rfl,rfl,rfl,rfl,rfl,rfl,rfl,rfl,rfl,rfl,rfl,trivial⟩ ?_ ?_
     ·refine rp (Pu.pickF rfl rfl) ?_
      exact hJ9 _ _ ⟨dOrF hc8,trivial⟩ (fun w s=>s)
     ·intro hJ11
      refine RS.splitP 29 rfl (fun hc10=>?_) (fun hc10=>?_)
      ·refine rp (Pu.fieldAddr fd95_1 rfl) (rq (Qt.ldB 0 ty3 rfl rfl rfl) (rp (Pu.fieldAddr fd95_1 rfl) (rq (Qt.ldB 1 ty3 rfl rfl rfl) (rp (Pu.bin rfl rfl rfl) (rp (Pu.pickT rfl rfl) ?_)))))
       exact hJ11 _ _ ⟨dAndT hc10,rfl,rfl,rfl,rfl,rfl,rfl,rfl,rfl,rfl,rfl,rfl,rfl,rfl,rfl,trivial⟩ (fun w s=>s)
      ·refine ro (ro (ro (ro (ro (rp (Pu.pickF rfl rfl) ?_)))))
       exact hJ11 _ _ ⟨dAndF hc10,rfl,rfl,rfl,rfl,rfl,rfl,rfl,rfl,rfl,rfl,rfl,rfl,rfl,rfl,trivial⟩ (fun w s=>s)
 ·intro hJ4
  refine RS.split 7 rfl (fun hc3=>?_) (fun hc3=>?_)
  ·refine ro (ro (rp (Pu.pickT rfl rfl) ?_))
   exact hJ4 _ _ ⟨dOrT hc3,rfl,rfl,trivial⟩ (fun w s=>s)
  ·refine rp (Pu.fieldAddr fd95_2 rfl) (rq (Qt.ldB 1 ty4 rfl rfl rfl) (rp (Pu.pickF rfl rfl) ?_))
   exact hJ4 _ _ ⟨dOrFB (bne_of hc3),rfl,rfl,trivial⟩ (fun w s=>s)
theorem throngref13_over_walk (a0_g:Grd) (a1_class:Int) (a2_ps:List Prt) (a3_from:List Int) (a4_end:List Int) (a5_best:List PWay) (a6_k:Int) (w:World) {v0 v1 v2 v3 v4:Value} (h0:R (hpOf w) a0_g.tiles [v0]) (h1:R (hpOf w) a2_ps [v1]) (h2:R (hpOf w) a3_from [v2]) (h3:R (hpOf w) a4_end [v3]) (h4:R (hpOf w) a5_best [v4]) {r:PWay} (H:throngref13_over a0_g a1_class a2_ps a3_from a4_end a5_best a6_k = some r):Calls Tryz.prog 53 #[.agg #[.int .i64 a0_g.w,.int .i64 a0_g.h,v0],.int .i64 a1_class,v1,v2,v3,v4,.int .i64 a6_k] w fun e w'=>e = .returned (.agg #[.int .i64 r.cost,.int .i64 r.count,.bool r.no])∧Ext w w':=by
 have hm0:=R_max h0
 obtain ⟨p0,c0,rfl⟩:=R_form h0
 have hm1:=R_max h1
 obtain ⟨p1,c1,rfl⟩:=R_form h1
 have hm2:=R_max h2
 obtain ⟨p2,c2,rfl⟩:=R_form h2
 have hm3:=R_max h3
 obtain ⟨p3,c3,rfl⟩:=R_form h3
 have hm4:=R_max h4
 obtain ⟨p4,c4,rfl⟩:=R_form h4
 unfold throngref13_over at H
 refine T.enter (args:=[_,_,_,_,_,_,_]) (S:=Sat w []) Tryz.func53 rfl rfl (Sat.start w) ?_
 refine T.seq fun K1 hK1=>T.region (RS.solid (Sd.box (cs:=[_,_,_]) rfl rfl) rfl rfl fun b1=>RS.solid (Sd.alloc zr95 rfl) rfl rfl fun b2=>RS.nil (hK1 _ _ ?_))
 refine T.seq fun K2 hK2=>T.region (rM rfl (rM rfl ?_))
 obtain ⟨g3,H⟩:=gdE H
 refine rp (Pu.xor1 rfl rfl g3) ?_
 obtain ⟨g4,H⟩:=gdE H
 obtain ⟨bl5,ol6,rfl⟩:=R_ptr h4 (ne_of_pos (pos_of g4))
 refine rp (Pu.indexSl sl93 rfl rfl g4) (rq (Qt.ldW (α:=PWay) (cs:=[_,_,_]) (Rd.base h4) ty95 rfl rfl g4 rfl (by rintro _ _ rfl; rfl)) (RS.solid (Sd.alloc zr95 rfl) rfl rfl fun b7=>RS.solid (Sd.stB (cs':=[_,_,_]) 2 ty95 rfl rfl rfl rfl rfl rfl rfl rfl) rfl rfl fun _=>RS.nil (hK2 _ _ (cq [(1,_),(3,_),(4,_),(6,_),(7,_),(14,_),(15,_)] ?_))))
 refine T.seq fun K3 hK3=>T.seq fun K4 hK4=>T.region (rM rfl (rM rfl (rM rfl ?_)))
 obtain ⟨g8,H⟩:=gdE H
 obtain ⟨bl9,ol10,rfl⟩:=R_ptr h3 (ne_of_pos (pos_of g8))
 refine rp (Pu.indexSl sl23 rfl rfl g8) (rq (Qt.ld0 (α:=Int) (Rd.base h3) ty3 rfl rfl g8 (by rintro _ _ rfl; rfl)) ?_)
 obtain ⟨g11,H⟩:=gdE H
 obtain ⟨bl12,ol13,rfl⟩:=R_ptr h2 (ne_of_pos (pos_of g11))
 refine rp (Pu.indexSl sl23 rfl rfl g11) (rq (Qt.ld0 (α:=Int) (Rd.base h2) ty3 rfl rfl g11 (by rintro _ _ rfl; rfl)) (rp (Pu.bin rfl rfl rfl) (rM rfl ?_)))
 refine RS.joinV 3 33 (.bool (decide (((gi a3_from (gi a4_end a6_k)) < 0) ∨ (((gi a5_best (a6_k + 1 - 2 * (a6_k % 2))).no) = true)))) [(1,_),(3,_),(4,_),(6,_),(7,_),(14,_),(15,_)] ⟨rfl,rfl,rfl,rfl,rfl,rfl,rfl,trivial⟩ ?_ ?_
 ·refine RS.nil (hK4 _ _ ?_)
  refine T.condP rfl (fun hc16=>?_) (fun hc16=>?_)
  ·have H:=ifT hc16 H
   refine cq [(14,_)] ?_
   refine T.seq fun K5 hK5=>T.region (rp (Pu.build (cells:=[_,_,_]) st95 rfl rfl) (RS.solid (Sd.stB (cs':=[_,_,_]) 1 ty95 rfl rfl rfl rfl rfl rfl rfl rfl) rfl rfl fun _=>RS.nil (hK5 _ _ ?_)))
   obtain rfl:=sj H
   refine T.rt (Cont.retC 1 rfl ty95 rfl rfl rfl fun w' s=>?_)
   exact ⟨rfl,s.ext⟩
  ·have H:=ifF hc16 H
   refine T.skip (hK3 _ _ ?_)
   refine T.seq fun K6 hK6=>?_
   refine T.drawn (fun _=>True) [(0,.pu),(1,.pu),(2,.rd),(3,.pu),(4,.pu),(5,.pu),(6,.rd),(7,.pu),(8,.rd),(9,.rd),(10,.pu),(11,.pu),(12,.rd),(13,.pu),(14,.pu),(15,.pu),(16,.pu),(17,.rd),(18,.pu),(19,.rd),(20,.rd),(21,.pu),(22,.pu),(23,.pu)] mixed (ClE.sat _ _) (by kernel_rfl) ?_
   refine dp rfl (Pu.move rfl) (dp rfl (Pu.fieldAddr fd36_2 rfl) (dq rfl (Qt.ldB 0 ty34 rfl rfl rfl) (dp rfl (Pu.move rfl) (dp rfl (Pu.move rfl) ?_))))
   obtain ⟨g17,H⟩:=gdE H
   refine dp rfl (Pu.indexSl sl23 rfl rfl g17) (dq rfl (Qt.ld0 (α:=Int) (Rd.base h3) ty3 rfl rfl g17 (by rintro _ _ rfl; rfl)) ?_)
   obtain ⟨g18,H⟩:=gdE H
   obtain ⟨bl19,ol20,rfl⟩:=R_ptr h0 (ne_of_pos (pos_of g18))
   refine dp rfl (Pu.indexSl sl34 rfl rfl g18) (dq rfl (Qt.ld0 (α:=UInt8) (Rd.base h0) ty5 rfl rfl g18 (by rintro _ _ rfl; rfl)) ?_)
   obtain ⟨x21,hx21,H⟩:=bindE H
   refine dq rfl (Qt.call (vs:=[.int .i64 a1_class,.int .u8 ((gi a0_g.tiles (gi a4_end a6_k)).toNat:Int)]) ent74 rfl fun w s=>throngref5_Cost_walk a1_class ((gi a0_g.tiles (gi a4_end a6_k)).toNat:Int) w  hx21) (dp rfl (Pu.move rfl) (dp rfl (Pu.fieldAddr fd36_2 rfl) (dq rfl (Qt.ldB 0 ty34 rfl rfl rfl) (dp rfl (Pu.move rfl) (dp rfl (Pu.move rfl) ?_)))))
   obtain ⟨g22,H⟩:=gdE H
   refine dp rfl (Pu.xor1 rfl rfl g22) ?_
   obtain ⟨g23,H⟩:=gdE H
   refine dp rfl (Pu.indexSl sl23 rfl rfl g23) (dq rfl (Qt.ld0 (α:=Int) (Rd.base h3) ty3 rfl rfl g23 (by rintro _ _ rfl; rfl)) ?_)
   obtain ⟨g24,H⟩:=gdE H
   refine dp rfl (Pu.indexSl sl34 rfl rfl g24) (dq rfl (Qt.ld0 (α:=UInt8) (Rd.base h0) ty5 rfl rfl g24 (by rintro _ _ rfl; rfl)) ?_)
   obtain ⟨x25,hx25,H⟩:=bindE H
   refine dq rfl (Qt.call (vs:=[.int .i64 a1_class,.int .u8 ((gi a0_g.tiles (gi a4_end (a6_k + 1 - 2 * (a6_k % 2)))).toNat:Int)]) ent74 rfl fun w s=>throngref5_Cost_walk a1_class ((gi a0_g.tiles (gi a4_end (a6_k + 1 - 2 * (a6_k % 2)))).toNat:Int) w  hx25) ?_
   obtain ⟨g26,H⟩:=gdE H
   refine dp rfl (Pu.addS rfl rfl g26) ?_
   obtain ⟨g27,H⟩:=gdE H
   refine dp rfl (Pu.mulS rfl rfl g27) (dp rfl (Pu.assign rfl) (RD.nil (hK6 _ _ (cq [(3,_),(4,_),(6,_),(14,_),(15,_),(16,_)] ?_))))
   refine T.seq fun K7 hK7=>?_
   refine T.drawn (fun _=>True) [(0,.pu),(1,.pu),(2,.pu),(3,.pu),(4,.rd),(5,.pu),(6,.rd),(7,.pu),(8,.pu),(9,.pu),(10,.rd),(11,.pu),(12,.pu),(13,.rd),(14,.pu),(15,.pu),(16,.br)] mixed (ClE.sat _ _) (by kernel_rfl) ?_
   refine dp rfl (Pu.move rfl) (dp rfl (Pu.move rfl) (dp rfl (Pu.move rfl) ?_))
   obtain ⟨g28,H⟩:=gdE H
   refine dp rfl (Pu.indexSl sl23 rfl rfl g28) (dq rfl (Qt.ld0 (α:=Int) (Rd.base h3) ty3 rfl rfl g28 (by rintro _ _ rfl; rfl)) ?_)
   obtain ⟨g29,H⟩:=gdE H
   refine dp rfl (Pu.indexSl sl23 rfl rfl g29) (dq rfl (Qt.ld0 (α:=Int) (Rd.base h2) ty3 rfl rfl g29 (by rintro _ _ rfl; rfl)) (dp rfl (Pu.move rfl) ?_))
   obtain ⟨g30,H⟩:=gdE H
   refine dp rfl (Pu.addS rfl rfl g30) (dp rfl (Pu.fieldAddr fd95_0 rfl) (dq rfl (Qt.ldB 2 ty3 rfl rfl rfl) ?_))
   obtain ⟨g31,H⟩:=gdE H
   refine dp rfl (Pu.addS rfl rfl g31) (dp rfl (Pu.fieldAddr fd95_1 rfl) (dq rfl (Qt.ldB 2 ty3 rfl rfl rfl) ?_))
   obtain ⟨g32,H⟩:=gdE H
   refine dp rfl (Pu.addS rfl rfl g32) (dp rfl (Pu.build (cells:=[_,_,_]) st95 rfl rfl) (RD.solid rfl (.inr rfl) rfl rfl (Sd.stB (cs':=[_,_,_]) 1 ty95 rfl rfl rfl rfl rfl rfl rfl rfl) (fun _=>ClE.sat _ _) (fun _ _ _=>trivial) (fun h=>nomatch h) fun _=>?_))
   refine RD.nil (hK7 _ _ (cq [(14,_)] ?_))
   obtain rfl:=sj H
   refine T.rt (Cont.retC 1 rfl ty95 rfl rfl rfl fun w' s=>?_)
   exact ⟨rfl,s.ext⟩
 ·intro hJ15
  refine RS.splitP 30 rfl (fun hc14=>?_) (fun hc14=>?_)
  ·refine ro (ro (rp (Pu.pickT rfl rfl) ?_))
   exact hJ15 _ _ ⟨dOrT hc14,rfl,rfl,rfl,rfl,rfl,rfl,rfl,trivial⟩ (fun w s=>s)
  ·refine rp (Pu.fieldAddr fd95_2 rfl) (rq (Qt.ldB 2 ty4 rfl rfl rfl) (rp (Pu.pickF rfl rfl) ?_))
   exact hJ15 _ _ ⟨dOrFB hc14,rfl,rfl,rfl,rfl,rfl,rfl,rfl,trivial⟩ (fun w s=>s)
theorem throngref13_Route_walk (a0_g:Grd) (a1_l:List Bld) (a2_class:Int) (a3_size:Int) (a4_start:Int) (a5_goal:Int) (w:World) {v0 v1:Value} (h0:R (hpOf w) a0_g.tiles [v0]) (h1:R (hpOf w) a1_l [v1]) {r:Rte × Bool} (H:throngref13_Route a0_g a1_l a2_class a3_size a4_start a5_goal = some r):Calls Tryz.prog 24 #[.agg #[.int .i64 a0_g.w,.int .i64 a0_g.h,v0],v1,.int .i64 a2_class,.int .i64 a3_size,.int .i64 a4_start,.int .i64 a5_goal] w fun e w'=>∃ g:(Option Nat × Nat) × (Option Nat × Nat),e = .returned (.tuple #[.agg #[.int .i64 r.1.cost,rowV g.1 r.1.portals.length,rowV g.2 r.1.sectors.length],.bool r.2])∧Sat w [row nilH 3 (rowV g.1 r.1.portals.length) r.1.portals,row nilH 3 (rowV g.2 r.1.sectors.length) r.1.sectors] w':=by
 have hm0:=R_max h0
 obtain ⟨p0,c0,rfl⟩:=R_form h0
 have hm1:=R_max h1
 obtain ⟨p1,c1,rfl⟩:=R_form h1
 unfold throngref13_Route at H
 refine T.enter (args:=[_,_,_,_,_,_]) (S:=Sat w []) Tryz.func24 rfl rfl (Sat.start w) ?_
 refine T.exP (fun w s=>s.newArena) fun hA _=>?_
 refine T.seq fun K1 hK1=>T.region (RS.solid (Sd.box (cs:=[_,_,_]) rfl rfl) rfl rfl fun b1=>RS.solid (Sd.alloc zr52 rfl) rfl rfl fun b2=>rA rfl (RS.nil (hK1 _ _ ?_)))
 refine T.seq fun K2 hK2=>T.region (rq (Qt.ldBA (us:=[_,_,_]) 1 ty36 rfl rfl rfl rfl) (rM rfl (rM rfl (rM rfl ?_))))
 obtain ⟨x3,hx3,H⟩:=bindE H
 refine RS.solid (Sd.callN (vs:=[.agg #[.int .i64 a0_g.w,.int .i64 a0_g.h,.slice p0 a0_g.tiles.length c0],.slice p1 a1_l.length c1,.int .i64 a2_class,.int .i64 a3_size]) ent39 rfl (fun w s=>throngref13_Good_walk a0_g a1_l a2_class a3_size w ((Rd.base h0) w s) ((Rd.base h1) w s) hx3)) rfl rfl fun q4=>rA rfl (RS.nil (hK2 _ _ (cq [(2,_),(4,_),(5,_),(6,_),(12,_),(14,_)] ?_)))
 refine T.seq fun K3 hK3=>T.seq fun K4 hK4=>T.region (rM rfl (rM rfl ?_))
 obtain ⟨g5,H⟩:=gdE H
 refine RS.know (p:=∃ g cap,q4 = (some g,cap)) (fun w s=>(s.row_some (k:=3) rfl (pos_of g5))) ?_
 rintro ⟨gg6,cc7,rfl⟩
 refine rp (Pu.indexSl sl59 rfl rfl g5) (rq (Qt.ld0 (α:=Bool) (Rd.ofRowN 3 rfl) ty4 rfl rfl g5 (by rintro _ _ rfl; rfl)) (rp (Pu.not rfl) (rM rfl ?_)))
 obtain ⟨g10,H⟩:=gdE H
 refine RS.joinV 6 51 (.bool (decide (((!(gi x3 a4_start)) = true) ∨ ((!(gi x3 a5_goal)) = true)))) [(2,_),(4,_),(5,_),(6,_),(12,_),(14,_)] ⟨rfl,rfl,rfl,rfl,rfl,rfl,trivial⟩ ?_ ?_
 ·refine RS.nil (hK4 _ _ ?_)
  refine T.condP rfl (fun hc11=>?_) (fun hc11=>?_)
  ·have H:=ifT hc11 H
   refine cq [(12,_)] ?_
   refine T.seq fun K5 hK5=>T.region (rp (Pu.build (cells:=[_,_,_]) st52 rfl rfl) (RS.solid (Sd.stB (cs':=[_,_,_]) 2 ty52 rfl rfl rfl rfl rfl rfl rfl rfl) rfl rfl fun _=>rA rfl (RS.nil (hK5 _ _ ?_))))
   obtain rfl:=sj H
   refine T.rt (Cont.retCT 2 rfl ty52 rfl rfl rfl rfl fun w' s=>?_)
   exact ⟨⟨(none,0),(none,0)⟩,rfl,((s.nilRow (α:=Int) 3).nilRow (α:=Int) 3).pick [4,5] (by decide) rfl⟩
  ·have H:=ifF hc11 H
   refine T.skip (hK3 _ _ ?_)
   refine T.seq fun K6 hK6=>T.region (rp (Pu.fieldAddr fd36_0 rfl) (rq (Qt.ldB 1 ty3 rfl rfl rfl) (rp (Pu.fieldAddr fd36_1 rfl) (rq (Qt.ldB 1 ty3 rfl rfl rfl) (rM rfl ?_)))))
   obtain ⟨x12,hx12,H⟩:=bindE H
   refine RS.solid (Sd.callN (vs:=[.int .i64 a0_g.w,.int .i64 a0_g.h,rowV (some gg6,cc7) x3.length]) ent51 rfl (fun w s=>throngref10_Find_walk a0_g.w a0_g.h x3 w ((Rd.ofRowN 3 rfl) w s) hx12)) rfl rfl fun q13=>rA rfl (RS.nil (hK6 _ _ (cq [(2,_),(4,_),(5,_),(6,_),(12,_),(14,_),(15,_)] ?_)))
   refine T.seq fun K7 hK7=>T.region (rM rfl ?_)
   obtain ⟨x14,hx14,H⟩:=bindE H
   refine RS.solid (Sd.callN (vs:=[rowV q13 x12.length]) ent52 rfl (fun w s=>throngref13_ends_walk x12 w ((Rd.ofRowN 4 rfl) w s) hx14)) rfl rfl fun q15=>rA rfl (RS.nil (hK7 _ _ ?_))
   refine T.seq fun K8 hK8=>T.region (rA rfl ?_)
   refine RS.weakS (fun w s=>(s.nilRowA (α:=(List Int)) (B:=hA) 23)) ?_
   refine RS.nil (hK8 _ _ ?_)
   refine T.seq fun K9 hK9=>T.seq fun K10 hK10=>T.region (rA rfl (RS.nil (hK10 _ _ ?_)))
   refine T.joinE (σ:=List (List Int)) (γ:=Hp × (Option Nat × Nat)) H (fun s=>s) [(2,_),(4,_),(5,_),(6,_),(12,_),(14,_),(15,_),(16,_)] ⟨rfl,rfl,rfl,rfl,rfl,rfl,rfl,rfl,trivial⟩ (fun v18 (q17,q19)=>[(17,rowV q19 v18.length)]) (fun v18 (q17,q19)=>Sat w [fz q17,blk b1 [.int .i64 a0_g.w,.int .i64 a0_g.h,.slice p0 a0_g.tiles.length c0] 36,blk b2 [.int .i64 0,.slice none 0 0,.slice none 0 0] 52,row nilH 4 (rowV (some gg6,cc7) x3.length) x3,row nilH 67 (rowV q13 x12.length) x12,row nilH 3 (rowV q15 x14.length) x14,rowG (FA q17) 23 (rowV q19 v18.length) v18]) ?_ ?_
   ·rintro v18 ⟨q17,q19⟩ H
    try dsimp only [Ex.then] at H
    refine Cont.conseq (fr':=[(17,_),(2,_),(4,_),(5,_),(6,_),(12,_),(14,_),(15,_),(16,_)]) ?_ ⟨rfl,rfl,rfl,rfl,rfl,rfl,rfl,rfl,rfl,trivial⟩ (fun _ s=>s)
    refine id (hK9 _ _ ?_)
    refine T.seq fun K11 hK11=>?_
    try dsimp only [List.set,List.cons_append,List.nil_append]
    refine T.drawn (fun _=>True) [(0,.rd),(1,.pu),(2,.pu),(3,.pu),(4,.pu),(5,.rd),(6,.pu),(7,.rd),(8,.so),(9,.pu)] mixed (ClE.sat _ _) (by kernel_rfl) ?_
    refine dq rfl (Qt.ldBA (us:=[_,_,_]) 1 ty36 rfl rfl rfl rfl) (dp rfl (Pu.move rfl) (dp rfl (Pu.move rfl) (dp rfl (Pu.move rfl) (dp rfl (Pu.fieldAddr fd36_0 rfl) (dq rfl (Qt.ldB 1 ty3 rfl rfl rfl) (dp rfl (Pu.move rfl) ?_))))))
    obtain ⟨x20,hx20,H⟩:=bindE H
    refine dq rfl (Qt.call (vs:=[.int .i64 a0_g.w,.int .i64 a5_goal]) ent32 rfl fun w s=>throngref10_Of_walk a0_g.w a5_goal w  hx20) ?_
    obtain ⟨x21,hx21,H⟩:=bindE H
    refine RD.solid rfl (.inl rfl) rfl rfl (Sd.callN (vs:=[.agg #[.int .i64 a0_g.w,.int .i64 a0_g.h,.slice p0 a0_g.tiles.length c0],rowV (some gg6,cc7) x3.length,.int .i64 a2_class,.int .i64 a5_goal,.int .i64 x20]) ent40 rfl (fun w s=>throngref13_far_walk a0_g x3 a2_class a5_goal x20 w ((Rd.base h0) w s) ((Rd.ofRowN 3 rfl) w s) hx21)) (fun _=>ClE.sat _ _) (fun _ _ _=>trivial) (fun _ _ _ s=>s.drop1) fun q22=>?_
    refine dp rfl (Pu.assign rfl) (RD.nil (hK11 _ _ (cq [(2,_),(4,_),(5,_),(6,_),(12,_),(14,_),(15,_),(16,_),(17,_),(19,_)] ?_)))
    refine T.seq fun K12 hK12=>?_
    try dsimp only [List.set,List.cons_append,List.nil_append]
    refine T.region (rM rfl (rp (Pu.lenSl sl23 rfl) ?_))
    obtain ⟨g24,H⟩:=gdE H
    refine RS.solid (Sd.make (α:=PWay) (B:=nilH) (⟨0,0,false⟩:PWay) sl93 zr95 rfl (by decide) rfl rfl (by omega) (by omega) (by omega)) rfl rfl fun b23=>rA rfl (RS.nil (hK12 _ _ (cq [(2,_),(4,_),(5,_),(6,_),(12,_),(14,_),(15,_),(16,_),(17,_),(19,_),(20,_)] ?_)))
    refine T.seq fun K13 hK13=>T.seq fun K14 hK14=>T.region (rA rfl (RS.nil (hK14 _ _ ?_)))
    refine T.joinE (σ:=List PWay) (γ:=Unit) H (fun s=>s) [(2,_),(4,_),(5,_),(6,_),(12,_),(14,_),(15,_),(16,_),(17,_),(20,_)] ⟨rfl,rfl,rfl,rfl,rfl,rfl,rfl,rfl,rfl,rfl,trivial⟩ (fun v26 _=>[]) (fun v26 _=>Sat w [fz q17,blk b1 [.int .i64 a0_g.w,.int .i64 a0_g.h,.slice p0 a0_g.tiles.length c0] 36,blk b2 [.int .i64 0,.slice none 0 0,.slice none 0 0] 52,row nilH 4 (rowV (some gg6,cc7) x3.length) x3,row nilH 67 (rowV q13 x12.length) x12,row nilH 3 (rowV q15 x14.length) x14,rowG (FA q17) 23 (rowV q19 v18.length) v18,row nilH 3 (rowV q22 x21.length) x21,row nilH 95 (rowV (some b23,(x14.length:Int).toNat) ((x14.length:Int).toNat)) v26]) ?_ ?_
    ·rintro v26 ⟨⟩ H
     try dsimp only [Ex.then] at H
     refine Cont.conseq (fr':=[(2,_),(4,_),(5,_),(6,_),(12,_),(14,_),(15,_),(16,_),(17,_),(20,_)]) ?_ ⟨rfl,rfl,rfl,rfl,rfl,rfl,rfl,rfl,rfl,rfl,trivial⟩ (fun _ s=>s)
     refine id (hK13 _ _ ?_)
     refine T.seq fun K15 hK15=>T.seq fun K16 hK16=>T.region (rA rfl (RS.nil (hK16 _ _ ?_)))
     refine T.joinE (σ:=List PWay) (γ:=Unit) H (fun s=>s) [(2,_),(4,_),(5,_),(6,_),(12,_),(14,_),(15,_),(16,_),(17,_),(20,_)] ⟨rfl,rfl,rfl,rfl,rfl,rfl,rfl,rfl,rfl,rfl,trivial⟩ (fun v28 _=>[]) (fun v28 _=>Sat w [fz q17,blk b1 [.int .i64 a0_g.w,.int .i64 a0_g.h,.slice p0 a0_g.tiles.length c0] 36,blk b2 [.int .i64 0,.slice none 0 0,.slice none 0 0] 52,row nilH 4 (rowV (some gg6,cc7) x3.length) x3,row nilH 67 (rowV q13 x12.length) x12,row nilH 3 (rowV q15 x14.length) x14,rowG (FA q17) 23 (rowV q19 v18.length) v18,row nilH 3 (rowV q22 x21.length) x21,row nilH 95 (rowV (some b23,(x14.length:Int).toNat) ((x14.length:Int).toNat)) v28]) ?_ ?_
     ·rintro v28 ⟨⟩ H
      try dsimp only [Ex.then] at H
      refine Cont.conseq (fr':=[(2,_),(4,_),(5,_),(6,_),(12,_),(14,_),(15,_),(16,_),(17,_),(20,_)]) ?_ ⟨rfl,rfl,rfl,rfl,rfl,rfl,rfl,rfl,rfl,rfl,trivial⟩ (fun _ s=>s)
      refine id (hK15 _ _ ?_)
      refine T.seq fun K17 hK17=>?_
      try dsimp only [List.set,List.cons_append,List.nil_append]
      refine T.drawn (fun _=>True) [(0,.rd),(1,.pu),(2,.pu),(3,.pu),(4,.pu),(5,.rd),(6,.pu),(7,.rd),(8,.so),(9,.pu)] mixed (ClE.sat _ _) (by kernel_rfl) ?_
      refine dq rfl (Qt.ldBA (us:=[_,_,_]) 1 ty36 rfl rfl rfl rfl) (dp rfl (Pu.move rfl) (dp rfl (Pu.move rfl) (dp rfl (Pu.move rfl) (dp rfl (Pu.fieldAddr fd36_0 rfl) (dq rfl (Qt.ldB 1 ty3 rfl rfl rfl) (dp rfl (Pu.move rfl) ?_))))))
      obtain ⟨x29,hx29,H⟩:=bindE H
      refine dq rfl (Qt.call (vs:=[.int .i64 a0_g.w,.int .i64 a4_start]) ent32 rfl fun w s=>throngref10_Of_walk a0_g.w a4_start w  hx29) ?_
      obtain ⟨x30,hx30,H⟩:=bindE H
      refine RD.solid rfl (.inl rfl) rfl rfl (Sd.callN (vs:=[.agg #[.int .i64 a0_g.w,.int .i64 a0_g.h,.slice p0 a0_g.tiles.length c0],rowV (some gg6,cc7) x3.length,.int .i64 a2_class,.int .i64 a4_start,.int .i64 x29]) ent40 rfl (fun w s=>throngref13_far_walk a0_g x3 a2_class a4_start x29 w ((Rd.base h0) w s) ((Rd.ofRowN 3 rfl) w s) hx30)) (fun _=>ClE.sat _ _) (fun _ _ _=>trivial) (fun _ _ _ s=>s.drop1) fun q31=>?_
      refine dp rfl (Pu.assign rfl) (RD.nil (hK17 _ _ (cq [(2,_),(4,_),(5,_),(6,_),(12,_),(15,_),(16,_),(17,_),(20,_),(26,_)] ?_)))
      refine T.seq fun K18 hK18=>?_
      try dsimp only [List.set,List.cons_append,List.nil_append]
      refine T.region (rp (Pu.build (cells:=[_,_,_]) st95 rfl rfl) (RS.solid (Sd.alloc zr95 rfl) rfl rfl fun b32=>RS.solid (Sd.stB (cs':=[_,_,_]) 10 ty95 rfl rfl rfl rfl rfl rfl rfl rfl) rfl rfl fun _=>RS.nil (hK18 _ _ ?_)))
      refine T.seq fun K19 hK19=>T.seq fun K20 hK20=>?_
      try dsimp only [List.set,List.cons_append,List.nil_append]
      refine T.region (rM rfl (rM rfl ?_))
      obtain ⟨g33,H⟩:=gdE H
      refine RS.know (p:=∃ g cap,q31 = (some g,cap)) (fun w s=>(s.row_some (k:=9) rfl (pos_of g33))) ?_
      rintro ⟨gg34,cc35,rfl⟩
      refine rp (Pu.indexSl sl23 rfl rfl g33) (rq (Qt.ld0 (α:=Int) (Rd.ofRowN 9 rfl) ty3 rfl rfl g33 (by rintro _ _ rfl; rfl)) (rp (Pu.bin rfl rfl rfl) (RS.nil (hK20 _ _ ?_))))
      refine T.joinE (σ:=Int × Bool) (γ:=Unit) H (fun s=>s) [(2,_),(4,_),(6,_),(12,_),(15,_),(16,_),(17,_),(20,_),(26,_),(27,_)] ⟨rfl,rfl,rfl,rfl,rfl,rfl,rfl,rfl,rfl,rfl,trivial⟩ (fun (v37,v38) _=>[]) (fun (v37,v38) _=>Sat w [fz q17,blk b1 [.int .i64 a0_g.w,.int .i64 a0_g.h,.slice p0 a0_g.tiles.length c0] 36,blk b2 [.int .i64 0,.slice none 0 0,.slice none 0 0] 52,row nilH 4 (rowV (some gg6,cc7) x3.length) x3,row nilH 67 (rowV q13 x12.length) x12,row nilH 3 (rowV q15 x14.length) x14,rowG (FA q17) 23 (rowV q19 v18.length) v18,row nilH 3 (rowV q22 x21.length) x21,row nilH 95 (rowV (some b23,(x14.length:Int).toNat) ((x14.length:Int).toNat)) v28,row nilH 3 (rowV (some gg34,cc35) x30.length) x30,blk b32 [.int .i64 v37,.int .i64 0,.bool v38] 95]) ?_ ?_
      ·rintro ⟨v37,v38⟩ ⟨⟩ H
       try dsimp only [Ex.then] at H
       refine Cont.conseq (fr':=[(2,_),(4,_),(6,_),(12,_),(15,_),(16,_),(17,_),(20,_),(26,_),(27,_)]) ?_ ⟨rfl,rfl,rfl,rfl,rfl,rfl,rfl,rfl,rfl,rfl,trivial⟩ (fun _ s=>s)
       refine id (hK19 _ _ ?_)
       refine T.seq fun K21 hK21=>T.seq fun K22 hK22=>T.region (rA rfl (RS.nil (hK22 _ _ ?_)))
       refine T.joinE (σ:=Int × Int × Bool) (γ:=Unit) H (fun s=>s) [(2,_),(4,_),(6,_),(12,_),(15,_),(16,_),(17,_),(20,_),(26,_),(27,_)] ⟨rfl,rfl,rfl,rfl,rfl,rfl,rfl,rfl,rfl,rfl,trivial⟩ (fun (v40,v41,v42) _=>[]) (fun (v40,v41,v42) _=>Sat w [fz q17,blk b1 [.int .i64 a0_g.w,.int .i64 a0_g.h,.slice p0 a0_g.tiles.length c0] 36,blk b2 [.int .i64 0,.slice none 0 0,.slice none 0 0] 52,row nilH 4 (rowV (some gg6,cc7) x3.length) x3,row nilH 67 (rowV q13 x12.length) x12,row nilH 3 (rowV q15 x14.length) x14,rowG (FA q17) 23 (rowV q19 v18.length) v18,row nilH 3 (rowV q22 x21.length) x21,row nilH 95 (rowV (some b23,(x14.length:Int).toNat) ((x14.length:Int).toNat)) v28,row nilH 3 (rowV (some gg34,cc35) x30.length) x30,blk b32 [.int .i64 v40,.int .i64 v41,.bool v42] 95]) ?_ ?_
       ·rintro ⟨v40,v41,v42⟩ ⟨⟩ H
        try dsimp only [Ex.then] at H
        refine Cont.conseq (fr':=[(2,_),(4,_),(6,_),(12,_),(15,_),(16,_),(17,_),(20,_),(26,_),(27,_)]) ?_ ⟨rfl,rfl,rfl,rfl,rfl,rfl,rfl,rfl,rfl,rfl,trivial⟩ (fun _ s=>s)
        refine id (hK21 _ _ ?_)
        refine T.seq fun K23 hK23=>T.seq fun K24 hK24=>?_
        try dsimp only [List.set,List.cons_append,List.nil_append]
        refine T.region (rp (Pu.fieldAddr fd95_2 rfl) (rq (Qt.ldB 10 ty4 rfl rfl rfl) (RS.nil (hK24 _ _ ?_))))
        refine T.cond rfl (fun hc43=>?_) (fun hc43=>?_)
        ·have H:=ifT hc43 H
         refine cq [(12,_)] ?_
         refine T.seq fun K25 hK25=>?_
         try dsimp only [List.set,List.cons_append,List.nil_append]
         refine T.region (rp (Pu.build (cells:=[_,_,_]) st52 rfl rfl) (RS.solid (Sd.stB (cs':=[_,_,_]) 2 ty52 rfl rfl rfl rfl rfl rfl rfl rfl) rfl rfl fun _=>rA rfl (RS.nil (hK25 _ _ ?_))))
         obtain rfl:=sj H
         try dsimp only [List.set,List.cons_append,List.nil_append]
         refine T.rt (Cont.retCT 2 rfl ty52 rfl rfl rfl rfl fun w' s=>?_)
         exact ⟨⟨(none,0),(none,0)⟩,rfl,((s.nilRow (α:=Int) 3).nilRow (α:=Int) 3).pick [11,12] (by decide) rfl⟩
        ·have H:=ifB hc43 H
         refine T.skip (hK23 _ _ ?_)
         refine T.joinA (σ:=List Int) (γ:=Nat × (Option Nat × Nat)) H (fun s=>s) [(2,_),(6,_),(12,_),(15,_),(16,_),(17,_),(20,_),(26,_),(27,_)] ⟨rfl,rfl,rfl,rfl,rfl,rfl,rfl,rfl,rfl,trivial⟩ (fun v46 (q45,q47)=>[(30,.pointer (some ⟨q45,0,none⟩))]) (fun v46 (q45,q47)=>Sat w [fz q17,blk b1 [.int .i64 a0_g.w,.int .i64 a0_g.h,.slice p0 a0_g.tiles.length c0] 36,blk b2 [.int .i64 0,.slice none 0 0,.slice none 0 0] 52,row nilH 4 (rowV (some gg6,cc7) x3.length) x3,row nilH 67 (rowV q13 x12.length) x12,row nilH 3 (rowV q15 x14.length) x14,rowG (FA q17) 23 (rowV q19 v18.length) v18,row nilH 3 (rowV q22 x21.length) x21,row nilH 95 (rowV (some b23,(x14.length:Int).toNat) ((x14.length:Int).toNat)) v28,row nilH 3 (rowV (some gg34,cc35) x30.length) x30,blk b32 [.int .i64 v40,.int .i64 v41,.bool v42] 95,blk q45 [.int .i64 v40,.slice none 0 0,rowV q47 v46.length] 52,row nilH 3 (rowV q47 v46.length) v46]) ?_ ?_
         ·rintro v46 ⟨q45,q47⟩ H
          try dsimp only [Ex.then] at H
          refine cq [(30,_),(2,_),(6,_),(12,_),(15,_),(16,_),(17,_),(20,_),(26,_),(27,_)] ?_
          refine T.seq fun K27 hK27=>?_
          try dsimp only [List.set,List.cons_append,List.nil_append]
          refine T.region (rM rfl (rA rfl ?_))
          refine RS.weakS (fun w s=>(Sat.rowDat (B:=q17) (q:=(some gg34,cc35)) (m:=x30.length) 9 s rfl)) ?_
          refine RS.nil (hK27 _ _ ?_)
          refine T.joinA (σ:=List Int × List Int) (γ:=(Option Nat × Nat) × (Option Nat × Nat)) H (fun s=>s) [(12,_),(30,_)] ⟨rfl,rfl,trivial⟩ (fun (v49,v51) (q50,q52)=>[]) (fun (v49,v51) (q50,q52)=>Sat w [fz q17,blk b1 [.int .i64 a0_g.w,.int .i64 a0_g.h,.slice p0 a0_g.tiles.length c0] 36,blk b2 [.int .i64 0,.slice none 0 0,.slice none 0 0] 52,row nilH 4 (rowV (some gg6,cc7) x3.length) x3,row nilH 67 (rowV q13 x12.length) x12,row nilH 3 (rowV q15 x14.length) x14,rowG (FA q17) 23 (rowV q19 v18.length) v18,row nilH 3 (rowV q22 x21.length) x21,row nilH 95 (rowV (some b23,(x14.length:Int).toNat) ((x14.length:Int).toNat)) v28,dead,dead,blk q45 [.int .i64 v40,rowV q52 v51.length,rowV q50 v49.length] 52,row nilH 3 (rowV q50 v49.length) v49,row nilH 3 (rowV q52 v51.length) v51]) ?_ ?_
          ·rintro ⟨v49,v51⟩ ⟨q50,q52⟩ H
           try dsimp only [Ex.then] at H
           refine cq [(12,_),(30,_)] ?_
           refine T.seq fun K29 hK29=>?_
           try dsimp only [List.set,List.cons_append,List.nil_append]
           refine T.region (rq (Qt.ldBA (us:=[_,_,_]) 11 ty52 rfl rfl rfl rfl) (RS.solid (Sd.stB (cs':=[_,_,_]) 2 ty52 rfl rfl rfl rfl rfl rfl rfl rfl) rfl rfl fun _=>rA rfl (RS.nil (hK29 _ _ ?_))))
           obtain rfl:=sj H
           try dsimp only [List.set,List.cons_append,List.nil_append]
           refine T.rt (Cont.retCT 2 rfl ty52 rfl rfl rfl rfl fun w' s=>?_)
           exact ⟨⟨q52,q50⟩,rfl,s.pick [13,12] (by decide) rfl⟩
          ·intro z48 hz48 HX48 K28 hJ48
           refine T.block ?_
           refine T.loopA (γ:=(Option Nat × Nat) × (Option Addr) × Nat × (Option Nat × Nat)) hz48 [(2,_),(6,_),(12,_),(15,_),(16,_),(17,_),(20,_),(27,_),(30,_)] (fun (v53,v54,v55,l56,l58,l61) (q57,q59,q60,q62)=>[(31,.slice q59 l58.length q60)]) (fun (v53,v54,v55,l56,l58,l61) (q57,q59,q60,q62)=>Sat w [fz q17,blk b1 [.int .i64 a0_g.w,.int .i64 a0_g.h,.slice p0 a0_g.tiles.length c0] 36,blk b2 [.int .i64 0,.slice none 0 0,.slice none 0 0] 52,row nilH 4 (rowV (some gg6,cc7) x3.length) x3,row nilH 67 (rowV q13 x12.length) x12,row nilH 3 (rowV q15 x14.length) x14,rowG (FA q17) 23 (rowV q19 v18.length) v18,row nilH 3 (rowV q22 x21.length) x21,row nilH 95 (rowV (some b23,(x14.length:Int).toNat) ((x14.length:Int).toNat)) v28,dat q17 (l58:List Int) [.slice q59 l58.length q60],blk b32 [.int .i64 v53,.int .i64 v54,.bool v55] 95,blk q45 [.int .i64 v40,rowV q57 l56.length,rowV q62 l61.length] 52,row nilH 3 (rowV q62 l61.length) l61,row nilH 3 (rowV q57 l56.length) l56]) ((none,0),(some ⟨gg34,0,none⟩),cc35,q47) ⟨rfl,rfl,rfl,rfl,rfl,rfl,rfl,rfl,rfl,trivial⟩ ⟨rfl,trivial⟩ (fun w s=>(s.nilRow (α:=Int) 3).pick [0,1,2,3,4,5,6,7,8,9,10,11,12,13] (by decide) rfl) ?_
           rintro ⟨v53,v54,v55,l56,l58,l61⟩ ⟨q57,q59,q60,q62⟩ y63 H hd48 KL48 hL48
           try dsimp only [Ex.then] at H
           refine cq [(31,_),(2,_),(6,_),(12,_),(15,_),(16,_),(17,_),(20,_),(27,_),(30,_)] ?_
           refine T.seq fun K30 hK30=>T.seq fun K31 hK31=>?_
           try dsimp only [List.set,List.cons_append,List.nil_append]
           refine T.region (rp (Pu.fieldAddr fd95_1 rfl) (rq (Qt.ldB 10 ty3 rfl rfl rfl) (rp (Pu.bin rfl rfl rfl) (RS.nil (hK31 _ _ ?_)))))
           refine T.condP rfl (fun hc64=>?_) (fun hc64=>?_)
           ·have H:=ifT hc64 H
            refine T.skip (hK30 _ _ (cq [(2,_),(6,_),(12,_),(15,_),(16,_),(17,_),(20,_),(27,_),(30,_),(31,_)] ?_))
            refine T.block (T.seq fun K32 hK32=>T.region (rA rfl (RS.nil (hK32 _ _ ?_))))
            refine T.joinE (σ:=Int × Int × Bool × List Int × List Int × List Int) (γ:=(Option Nat × Nat) × (Option Nat × Nat) × (Option Addr) × Nat) H (fun s=>s) [(2,_),(6,_),(12,_),(15,_),(16,_),(17,_),(20,_),(27,_),(30,_)] ⟨rfl,rfl,rfl,rfl,rfl,rfl,rfl,rfl,rfl,trivial⟩ (fun (v66,v67,v68,v69,v71,v73) (q70,q72,q74,q75)=>[(31,.slice q74 v73.length q75)]) (fun (v66,v67,v68,v69,v71,v73) (q70,q72,q74,q75)=>Sat w [fz q17,blk b1 [.int .i64 a0_g.w,.int .i64 a0_g.h,.slice p0 a0_g.tiles.length c0] 36,blk b2 [.int .i64 0,.slice none 0 0,.slice none 0 0] 52,row nilH 4 (rowV (some gg6,cc7) x3.length) x3,row nilH 67 (rowV q13 x12.length) x12,row nilH 3 (rowV q15 x14.length) x14,rowG (FA q17) 23 (rowV q19 v18.length) v18,row nilH 3 (rowV q22 x21.length) x21,row nilH 95 (rowV (some b23,(x14.length:Int).toNat) ((x14.length:Int).toNat)) v28,dead,blk b32 [.int .i64 v66,.int .i64 v67,.bool v68] 95,blk q45 [.int .i64 v40,rowV q72 v71.length,rowV q70 v69.length] 52,row nilH 3 (rowV q70 v69.length) v69,row nilH 3 (rowV q72 v71.length) v71,dat q17 (v73:List Int) [.slice q74 v73.length q75]]) ?_ ?_
            ·rintro ⟨v66,v67,v68,v69,v71,v73⟩ ⟨q70,q72,q74,q75⟩ H
             try dsimp only [Ex.then] at H
             refine Cont.conseq (fr':=[(31,_),(2,_),(6,_),(12,_),(15,_),(16,_),(17,_),(20,_),(27,_),(30,_)]) ?_ ⟨rfl,rfl,rfl,rfl,rfl,rfl,rfl,rfl,rfl,rfl,trivial⟩ (fun _ s=>s)
             refine id (hL48 _ _ (v66,v67,v68,v71,v73,v69) (q72,q74,q75,q70) H ⟨rfl,rfl,rfl,rfl,rfl,rfl,rfl,rfl,rfl,trivial⟩ ⟨rfl,trivial⟩ (fun w s=>s.pick [0,1,2,3,4,5,6,7,8,14,10,11,12,13] (by decide) rfl))
            ·intro z65 hz65 HX65 hJ65
             refine T.block ?_
             refine T.loopA (γ:=Unit) hz65 [(2,_),(6,_),(12,_),(15,_),(16,_),(17,_),(20,_),(27,_),(30,_)] (fun v76 _=>[(31,.slice q59 l58.length q60),(32,.int .i64 v76)]) (fun v76 _=>Sat w [fz q17,blk b1 [.int .i64 a0_g.w,.int .i64 a0_g.h,.slice p0 a0_g.tiles.length c0] 36,blk b2 [.int .i64 0,.slice none 0 0,.slice none 0 0] 52,row nilH 4 (rowV (some gg6,cc7) x3.length) x3,row nilH 67 (rowV q13 x12.length) x12,row nilH 3 (rowV q15 x14.length) x14,rowG (FA q17) 23 (rowV q19 v18.length) v18,row nilH 3 (rowV q22 x21.length) x21,row nilH 95 (rowV (some b23,(x14.length:Int).toNat) ((x14.length:Int).toNat)) v28,dat q17 (l58:List Int) [.slice q59 l58.length q60],blk b32 [.int .i64 v53,.int .i64 v54,.bool v55] 95,blk q45 [.int .i64 v40,rowV q57 l56.length,rowV q62 l61.length] 52,row nilH 3 (rowV q62 l61.length) l61,row nilH 3 (rowV q57 l56.length) l56]) () ⟨rfl,rfl,rfl,rfl,rfl,rfl,rfl,rfl,rfl,trivial⟩ ⟨rfl,rfl,trivial⟩ (fun w s=>s) ?_
             rintro v76 ⟨⟩ y77 H hd65 KL65 hL65
             try dsimp only [Ex.then] at H
             refine cq [(31,_),(32,_),(2,_),(6,_),(12,_),(15,_),(16,_),(17,_),(20,_),(27,_),(30,_)] ?_
             refine T.seq fun K33 hK33=>T.seq fun K34 hK34=>?_
             try dsimp only [List.set,List.cons_append,List.nil_append]
             refine T.region (rM rfl (rM rfl (rp (Pu.lenSl sl23 rfl) (rp (Pu.bin rfl rfl rfl) (RS.nil (hK34 _ _ ?_))))))
             refine T.condP rfl (fun hc78=>?_) (fun hc78=>?_)
             ·have H:=ifT hc78 H
              refine T.skip (hK33 _ _ (cq [(2,_),(6,_),(12,_),(15,_),(16,_),(17,_),(20,_),(27,_),(30,_),(31,_),(32,_)] ?_))
              refine T.seq fun K35 hK35=>T.block (T.seq fun K36 hK36=>?_)
              try dsimp only [List.set,List.cons_append,List.nil_append]
              refine T.region (rq (Qt.ldBA (us:=[_,_,_]) 1 ty36 rfl rfl rfl rfl) (rM rfl (rM rfl (rM rfl (rM rfl (rM rfl (rM rfl ?_)))))))
              obtain ⟨x79,hx79,H⟩:=bindE H
              refine rq (Qt.call (vs:=[.agg #[.int .i64 a0_g.w,.int .i64 a0_g.h,.slice p0 a0_g.tiles.length c0],.int .i64 a2_class,rowV q13 x12.length,.slice q59 l58.length q60,rowV q15 x14.length,rowV (some b23,(x14.length:Int).toNat) ((x14.length:Int).toNat),.int .i64 v76]) ent53 rfl fun w s=>throngref13_over_walk a0_g a2_class x12 l58 x14 v28 v76 w ((Rd.base h0) w s) ((Rd.ofRowN 4 rfl) w s) ((Rd.ofDatH (Held.fz 0 rfl) 9 rfl) w s) ((Rd.ofRowN 5 rfl) w s) ((Rd.ofRowN 8 rfl) w s) hx79) (RS.solid (Sd.alloc zr95 rfl) rfl rfl fun b80=>RS.solid (Sd.stB (cs':=[_,_,_]) 14 ty95 rfl rfl rfl rfl rfl rfl rfl rfl) rfl rfl fun _=>RS.nil (hK36 _ _ (cq [(2,_),(6,_),(12,_),(15,_),(16,_),(17,_),(20,_),(27,_),(30,_),(31,_),(32,_),(33,_)] ?_)))
              refine T.seq fun K37 hK37=>?_
              try dsimp only [List.set,List.cons_append,List.nil_append]
              refine T.region (rp (Pu.fieldAddr fd95_2 rfl) (rq (Qt.ldB 14 ty4 rfl rfl rfl) (rp (Pu.not rfl) (rM rfl ?_))))
              refine RS.joinV 6 236 (.bool (decide (((!x79.no) = true)∧(x79.cost = v53)))) [(2,_),(6,_),(12,_),(15,_),(16,_),(17,_),(20,_),(27,_),(30,_),(31,_),(32,_),(33,_)] ⟨rfl,rfl,rfl,rfl,rfl,rfl,rfl,rfl,rfl,rfl,rfl,rfl,trivial⟩ ?_ ?_
              ·refine rM rfl ?_
               refine RS.joinV 6 243 (.bool (decide ((((!x79.no) = true)∧(x79.cost = v53))∧(x79.count = v54)))) [(2,_),(6,_),(12,_),(15,_),(16,_),(17,_),(20,_),(27,_),(30,_),(31,_),(32,_)] ⟨rfl,rfl,rfl,rfl,rfl,rfl,rfl,rfl,rfl,rfl,rfl,trivial⟩ ?_ ?_
               ·refine RS.nil (hK37 _ _ ?_)
                refine T.condP rfl (fun hc85=>?_) (fun hc85=>?_)
                ·have H:=ifT hc85 H
                 refine T.seq fun K38 hK38=>?_
                 try dsimp only [List.set,List.cons_append,List.nil_append]
                 refine T.region (rp (Pu.fieldAddr fd52_1 rfl) (rq (Qt.ldB 11 ty23 rfl rfl rfl) (rM rfl ?_)))
                 obtain ⟨g86,H⟩:=gdE H
                 refine rp (Pu.quoN rfl rfl ⟨g86.1,g86.2,by decide⟩) (RS.solid (Sd.litS (cs:=[_]) sl23 zr3 rfl rfl rfl rfl rfl) rfl rfl fun b87=>?_)
                 obtain ⟨g89,H⟩:=gdE H
                 refine RS.solid (Sd.app1c (α:=Int) 13 15 (v76 / 2) rfl rfl (nilH_lt _) sl23 zr3 rfl rfl rfl rfl g89 (by decide)) rfl rfl fun q88=>rp (Pu.fieldAddr fd52_1 rfl) (RS.solid (Sd.stB (cs':=[_,_,_]) 11 ty23 rfl rfl rfl rfl rfl rfl rfl rfl) rfl rfl fun _=>RS.nil (hK38 _ _ (cq [(2,_),(6,_),(12,_),(15,_),(16,_),(17,_),(20,_),(27,_),(30,_),(32,_)] ?_)))
                 refine T.seq fun K39 hK39=>?_
                 try dsimp only [List.set,List.cons_append,List.nil_append]
                 refine T.region (rM rfl ?_)
                 obtain ⟨g90,H⟩:=gdE H
                 refine rp (Pu.xor1 rfl rfl g90) (rA rfl (RS.nil (hK39 _ _ (cq [(2,_),(6,_),(12,_),(15,_),(16,_),(17,_),(20,_),(27,_),(30,_),(34,_)] ?_))))
                 refine T.seq fun K40 hK40=>?_
                 try dsimp only [List.set,List.cons_append,List.nil_append]
                 refine T.weakS (S':=Sat w [fz q17,blk b1 [.int .i64 a0_g.w,.int .i64 a0_g.h,.slice p0 a0_g.tiles.length c0] 36,blk b2 [.int .i64 0,.slice none 0 0,.slice none 0 0] 52,row nilH 4 (rowV (some gg6,cc7) x3.length) x3,row nilH 67 (rowV q13 x12.length) x12,row nilH 3 (rowV q15 x14.length) x14,rowG (FA q17) 23 (rowV q19 v18.length) v18,row nilH 3 (rowV q22 x21.length) x21,row nilH 95 (rowV (some b23,(x14.length:Int).toNat) ((x14.length:Int).toNat)) v28,dat q17 (l58:List Int) [.slice q59 l58.length q60],blk b32 [.int .i64 v53,.int .i64 v54,.bool v55] 95,blk q45 [.int .i64 v40,rowV q88 ((l56 ++ [(v76 / 2)]).length),rowV q62 l61.length] 52,row nilH 3 (rowV q62 l61.length) l61,row nilH 3 (rowV q88 ((l56 ++ [(v76 / 2)]).length)) (l56 ++ [(v76 / 2)]),blk b80 [.int .i64 x79.cost,.int .i64 x79.count,.bool x79.no] 95,blk b87 [.int .i64 (v76 / 2)] 3]) (fun w s=>s) ?_
                 refine T.drawnS [0,1,2,3,4,5,6,7,8,9,10,13,14,15] [(0,.pu),(1,.rd),(2,.pu),(3,.wk),(4,.pu),(5,.pu),(6,.pu),(7,.wk),(8,.rd),(9,.so),(10,.br),(11,.pu),(12,.br)] mixed (by kernel_rfl) rfl ?_
                 refine RD.p (fun w s=>s.pick [0,1,2,3,4,5,6,7,8,9,10,13,14,15] (by decide) rfl) rfl (Pu.fieldAddr fd52_2 rfl) rfl rfl (RD.q (fun w s=>s.pick [0,1,2,3,4,5,6,7,8,9,10,13,14,15] (by decide) rfl) rfl (Qt.ldB 11 ty23 rfl rfl rfl) rfl rfl (RD.p (fun w s=>s.pick [0,1,2,3,4,5,6,7,8,9,10,13,14,15] (by decide) rfl) rfl (Pu.fieldAddr fd36_0 rfl) rfl rfl ?_))
                 refine RD.w (fun w s=>s.pick [0,1,2,3,4,5,6,7,8,9,10,13,14,15] (by decide) rfl) rfl (Qt.ldB 1 ty3 rfl rfl rfl) rfl rfl ?_
                 refine RD.p (fun w s=>s.pick [0,1,2,3,4,5,6,7,8,9,10,13,14,15] (by decide) rfl) rfl (Pu.move rfl) rfl rfl (RD.p (fun w s=>s.pick [0,1,2,3,4,5,6,7,8,9,10,13,14,15] (by decide) rfl) rfl (Pu.move rfl) rfl rfl ?_)
                 obtain ⟨g91,H⟩:=gdE H
                 refine RD.know (p:=∃ g cap,q15 = (some g,cap)) (fun w s=>(s.row_some (k:=5) rfl (pos_of g91))) ?_
                 rintro ⟨gg92,cc93,rfl⟩
                 refine RD.p (fun w s=>s.pick [0,1,2,3,4,5,6,7,8,9,10,13,14,15] (by decide) rfl) rfl (Pu.indexSl sl23 rfl rfl g91) rfl rfl ?_
                 refine RD.w (fun w s=>s.pick [0,1,2,3,4,5,6,7,8,9,10,13,14,15] (by decide) rfl) rfl (Qt.ld0 (α:=Int) (Rd.ofRowN 5 rfl) ty3 rfl rfl g91 (by rintro _ _ rfl; rfl)) rfl rfl ?_
                 obtain ⟨x94,hx94,H⟩:=bindE H
                 refine RD.q (fun w s=>s.pick [0,1,2,3,4,5,6,7,8,9,10,13,14,15] (by decide) rfl) rfl (Qt.call (vs:=[.int .i64 a0_g.w,.int .i64 (gi x14 (v76 + 1 - 2 * (v76 % 2)))]) ent32 rfl fun w s=>throngref10_Of_walk a0_g.w (gi x14 (v76 + 1 - 2 * (v76 % 2))) w  hx94) rfl rfl (RD.solid rfl (.inl rfl) rfl rfl (Sd.litS (cs:=[_]) sl23 zr3 rfl rfl rfl rfl rfl) (fun _=>ClE.sat _ _) (fun _ w s=>s.pick [0,1,2,3,4,5,6,7,8,9,10,13,14,15] (by decide) rfl) (fun _ _ _ s=>s.drop1) fun b95=>?_)
                 obtain ⟨g97,H⟩:=gdE H
                 refine RD.solid rfl (.inr rfl) rfl rfl (Sd.app1c (α:=Int) 12 16 x94 rfl rfl (nilH_lt _) sl23 zr3 rfl rfl rfl rfl g97 (by decide)) (fun _=>ClE.sat _ _) (fun _ w s=>s.pick [0,1,2,3,4,5,6,7,8,9,10,13,14,15] (by decide) rfl) (fun h=>nomatch h) fun q96=>?_
                 refine RD.p (fun w s=>s.pick [0,1,2,3,4,5,6,7,8,9,10,13,14,15] (by decide) rfl) rfl (Pu.fieldAddr fd52_2 rfl) rfl rfl (RD.solid rfl (.inr rfl) rfl rfl (Sd.stB (cs':=[_,_,_]) 11 ty23 rfl rfl rfl rfl rfl rfl rfl rfl) (fun _=>ClE.sat _ _) (fun _ w s=>s.pick [0,1,2,3,4,5,6,7,8,9,10,13,14,15] (by decide) rfl) (fun h=>nomatch h) fun _=>?_)
                 refine RD.nil (hK40 _ _ (cq [(2,_),(6,_),(12,_),(15,_),(16,_),(17,_),(20,_),(27,_),(30,_),(34,_)] ?_))
                 refine T.seq fun K41 hK41=>?_
                 try dsimp only [List.set,List.cons_append,List.nil_append]
                 refine T.region (rM rfl (rM rfl ?_))
                 obtain ⟨g98,H⟩:=gdE H
                 refine RS.know (fun w s=>(s.row_fits (q:=(some b23,(x14.length:Int).toNat)) (m:=(x14.length:Int).toNat) (k:=8) rfl)) fun hf99=>?_
                 refine rp (Pu.indexSl sl93 rfl rfl g98) (rq (Qt.ldW (α:=PWay) (cs:=[_,_,_]) (Rd.ofRowN 8 rfl) ty95 rfl rfl (idx_of hf99.1 g98) rfl (by rintro _ _ rfl; rfl)) (RS.solid (Sd.stB (cs':=[_,_,_]) 10 ty95 rfl rfl rfl rfl rfl rfl rfl rfl) rfl rfl fun _=>RS.nil (hK41 _ _ (cq [(2,_),(6,_),(12,_),(15,_),(16,_),(17,_),(20,_),(27,_),(30,_),(34,_)] ?_))))
                 refine T.seq fun K42 hK42=>?_
                 try dsimp only [List.set,List.cons_append,List.nil_append]
                 refine T.region (rM rfl (rM rfl ?_))
                 obtain ⟨g100,H⟩:=gdE H
                 refine RS.know (p:=∃ g cap,q19 = (some g,cap)) (fun w s=>(s.row_someG (k:=6) rfl (pos_of g100))) ?_
                 rintro ⟨gg101,cc102,rfl⟩
                 refine rp (Pu.indexSl sl92 rfl rfl g100) ?_
                 refine RS.exP (fun w s=>s.freeze 6 rfl) fun hh103 hz104=>?_
                 obtain ⟨c105,hc106,ha107⟩:=R2.el (α:=(List Int)) (fa_R2 hz104) g100
                 obtain ⟨u108,rfl,hu108⟩:=R_one hc106
                 obtain ⟨p109,cc110,rfl⟩:=R_form hu108
                 refine rq (Qt.ldZ0 ty23 rfl ha107 (Held.fz 6 rfl) rfl) (rA rfl (RS.nil (hK42 _ _ (cq [(2,_),(6,_),(12,_),(15,_),(16,_),(17,_),(20,_),(27,_),(30,_),(31,_)] ?_))))
                 obtain rfl:=hd65 _ H
                 refine T.xt (hJ65 _ _ ((gi v28 (v76 + 1 - 2 * (v76 % 2))).cost,(gi v28 (v76 + 1 - 2 * (v76 % 2))).count,(gi v28 (v76 + 1 - 2 * (v76 % 2))).no,(l61 ++ [x94]),(l56 ++ [(v76 / 2)]),(gi v18 (v76 + 1 - 2 * (v76 % 2)))) (q96,q88,p109,cc110) HX65 ⟨rfl,rfl,rfl,rfl,rfl,rfl,rfl,rfl,rfl,trivial⟩ ⟨rfl,trivial⟩ (fun w s=>(Sat.holdDat (B:=q17) ((Sat.thaw hz104 6 rfl s).deadRow) hu108).pick [0,1,2,3,4,5,6,7,8,17,10,11,12,13,18] (by decide) rfl))
                ·have H:=ifF hc85 H
                 refine T.skip (hK35 _ _ ?_)
                 try dsimp only [List.set,List.cons_append,List.nil_append]
                 refine T.region (rM rfl ?_)
                 obtain ⟨g111,H⟩:=gdE H
                 refine rp (Pu.addS rfl rfl g111) (rA rfl (RS.nil (hL65 _ _ (v76 + 1) () H ⟨rfl,rfl,rfl,rfl,rfl,rfl,rfl,rfl,rfl,trivial⟩ ⟨rfl,rfl,trivial⟩ (fun w s=>s.pick [0,1,2,3,4,5,6,7,8,9,10,11,12,13] (by decide) rfl))))
               ·intro hJ84
                refine RS.splitP 237 rfl (fun hc83=>?_) (fun hc83=>?_)
                ·refine rp (Pu.fieldAddr fd95_1 rfl) (rq (Qt.ldB 14 ty3 rfl rfl rfl) (rp (Pu.fieldAddr fd95_1 rfl) (rq (Qt.ldB 10 ty3 rfl rfl rfl) (rp (Pu.bin rfl rfl rfl) (rp (Pu.pickT rfl rfl) ?_)))))
                 exact hJ84 _ _ ⟨dAndT hc83,rfl,rfl,rfl,rfl,rfl,rfl,rfl,rfl,rfl,rfl,rfl,trivial⟩ (fun w s=>s)
                ·refine ro (ro (ro (ro (ro (rp (Pu.pickF rfl rfl) ?_)))))
                 exact hJ84 _ _ ⟨dAndF hc83,rfl,rfl,rfl,rfl,rfl,rfl,rfl,rfl,rfl,rfl,rfl,trivial⟩ (fun w s=>s)
              ·intro hJ82
               refine RS.split 230 rfl (fun hc81=>?_) (fun hc81=>?_)
               ·refine rp (Pu.fieldAddr fd95_0 rfl) (rq (Qt.ldB 14 ty3 rfl rfl rfl) (rp (Pu.fieldAddr fd95_0 rfl) (rq (Qt.ldB 10 ty3 rfl rfl rfl) (rp (Pu.bin rfl rfl rfl) (rp (Pu.pickT rfl rfl) ?_)))))
                exact hJ82 _ _ ⟨dAndT hc81,rfl,rfl,rfl,rfl,rfl,rfl,rfl,rfl,rfl,rfl,rfl,rfl,trivial⟩ (fun w s=>s)
               ·refine ro (ro (ro (ro (ro (rp (Pu.pickF rfl rfl) ?_)))))
                exact hJ82 _ _ ⟨dAndF (bne_of hc81),rfl,rfl,rfl,rfl,rfl,rfl,rfl,rfl,rfl,rfl,rfl,rfl,trivial⟩ (fun w s=>s)
             ·have H:=ifF hc78 H
              obtain rfl:=hd65 _ H
              refine T.xt (hJ65 _ _ (v53,v54,v55,l61,l56,l58) (q62,q57,q59,q60) HX65 ⟨rfl,rfl,rfl,rfl,rfl,rfl,rfl,rfl,rfl,trivial⟩ ⟨rfl,trivial⟩ (fun w s=>(s.deadRow).pick [0,1,2,3,4,5,6,7,8,14,10,11,12,13,9] (by decide) rfl))
           ·have H:=ifF hc64 H
            obtain rfl:=hd48 _ H
            refine T.xt (hJ48 _ _ (l61,l56) (q62,q57) HX48 ⟨rfl,rfl,trivial⟩ trivial (fun w s=>((s.deadRow).deadRow).pick [0,1,2,3,4,5,6,7,8,14,15,11,12,13] (by decide) rfl))
         ·intro z44 H HX44 K26 hJ44
          try dsimp only [List.set,List.cons_append,List.nil_append]
          refine T.drawnT (fun _=>True) [(0,.pu),(1,.rd),(2,.pu),(3,.rd),(4,.pu),(5,.rd),(6,.so),(7,.pu),(8,.so),(9,.br)] (.st 0 .pu (.st 1 .rd (.st 2 .pu (.st 3 .rd (.st 4 .pu (.st 5 .rd (.two 6 .so (.st 7 .pu (.st 8 .so (.st 9 .br .nil))) 8 .so (.st 6 .so (.st 7 .pu (.st 9 .br .nil)))))))))) mixed (ClE.sat _ _) (by kernel_rfl) ?_
          refine RT.p (fun _ _=>trivial) rfl (Pu.fieldAddr fd95_0 rfl) rfl rfl (RT.q (fun _ _=>trivial) rfl (Qt.ldB 10 ty3 rfl rfl rfl) rfl rfl (RT.p (fun _ _=>trivial) rfl (Pu.fieldAddr fd36_0 rfl) rfl rfl (RT.q (fun _ _=>trivial) rfl (Qt.ldB 1 ty3 rfl rfl rfl) rfl rfl (RT.p (fun _ _=>trivial) rfl (Pu.move rfl) rfl rfl ?_))))
          obtain ⟨x112,hx112,H⟩:=bindE H
          refine RT.q (fun _ _=>trivial) rfl (Qt.call (vs:=[.int .i64 a0_g.w,.int .i64 a4_start]) ent32 rfl fun w s=>throngref10_Of_walk a0_g.w a4_start w  hx112) rfl rfl ?_
          refine RT.two ?_ ?_
          ·refine RT1.solid rfl (.inl rfl) rfl rfl (Sd.litS (cs:=[_]) sl23 zr3 rfl rfl rfl rfl rfl) (fun _=>ClE.sat _ _) (fun _ _ _=>trivial) (fun _ _ _ s=>s.drop1) fun b313=>?_
           refine RT.p (fun _ _=>trivial) rfl (Pu.build (cells:=[_,_,_]) st52 rfl rfl) rfl rfl (RT.solid rfl (.inl rfl) rfl rfl (Sd.alloc zr52 rfl) (fun _=>ClE.sat _ _) (fun _ _ _=>trivial) (fun _ _ _ s=>s.drop1) fun b314=>?_)
           refine RT.solid rfl (.inr rfl) rfl rfl (Sd.stB (cs':=[_,_,_]) 12 ty52 rfl rfl rfl rfl rfl rfl rfl rfl) (fun _=>ClE.sat _ _) (fun _ _ _=>trivial) (fun h=>nomatch h) fun _=>?_
           refine RT.nil (Cont.weakS (fun w s=>s.litRow (α:=Int) (n:=1) 11 [x112] rfl (by decide) rfl ⟨[_],_,rfl,rfl,rfl⟩) ?_)
           obtain rfl:=sj H
           refine id (hJ44 _ _ [x112] (b314,(some b313,1)) HX44 ⟨rfl,rfl,rfl,rfl,rfl,rfl,rfl,rfl,rfl,trivial⟩ ⟨rfl,trivial⟩ (fun w s=>(Sat.cellB 12 (Sat.relen (q:=(some b313,1)) (m:=1) 11 s rfl) rfl (congrArg (fun z=>[.int .i64 v40,.slice none 0 0,rowV (some b313,1) z]) (s.row_fits (q:=(some b313,1)) (m:=1) (k:=11) rfl).1)).pick [0,1,2,3,4,5,6,7,8,9,10,12,11] (by decide) rfl))
          ·refine RT1.solid rfl (.inl rfl) rfl rfl (Sd.alloc zr52 rfl) (fun _=>ClE.sat _ _) (fun _ _ _=>trivial) (fun _ _ _ s=>s.drop1) fun b315=>?_
           refine RT.solid rfl (.inl rfl) rfl rfl (Sd.litS (cs:=[_]) sl23 zr3 rfl rfl rfl rfl rfl) (fun _=>ClE.sat _ _) (fun _ _ _=>trivial) (fun _ _ _ s=>s.drop1) fun b316=>?_
           refine RT.p (fun _ _=>trivial) rfl (Pu.build (cells:=[_,_,_]) st52 rfl rfl) rfl rfl (RT.solid rfl (.inr rfl) rfl rfl (Sd.stB (cs':=[_,_,_]) 11 ty52 rfl rfl rfl rfl rfl rfl rfl rfl) (fun _=>ClE.sat _ _) (fun _ _ _=>trivial) (fun h=>nomatch h) fun _=>?_)
           refine RT.nil (Cont.weakS (fun w s=>s.litRow (α:=Int) (n:=1) 12 [x112] rfl (by decide) rfl ⟨[_],_,rfl,rfl,rfl⟩) ?_)
           obtain rfl:=sj H
           refine id (hJ44 _ _ [x112] (b315,(some b316,1)) HX44 ⟨rfl,rfl,rfl,rfl,rfl,rfl,rfl,rfl,rfl,trivial⟩ ⟨rfl,trivial⟩ (fun w s=>(Sat.cellB 11 (Sat.relen (q:=(some b316,1)) (m:=1) 12 s rfl) rfl (congrArg (fun z=>[.int .i64 v40,.slice none 0 0,rowV (some b316,1) z]) (s.row_fits (q:=(some b316,1)) (m:=1) (k:=12) rfl).1)).pick [0,1,2,3,4,5,6,7,8,9,10,11,12] (by decide) rfl))
       ·intro z39 hz39 HX39 hJ39
        refine T.block ?_
        refine T.loopA (γ:=Unit) hz39 [(2,_),(4,_),(6,_),(12,_),(15,_),(16,_),(17,_),(20,_),(26,_),(27,_)] (fun (v317,v318,v319,v320) _=>[(28,.int .i64 v317)]) (fun (v317,v318,v319,v320) _=>Sat w [fz q17,blk b1 [.int .i64 a0_g.w,.int .i64 a0_g.h,.slice p0 a0_g.tiles.length c0] 36,blk b2 [.int .i64 0,.slice none 0 0,.slice none 0 0] 52,row nilH 4 (rowV (some gg6,cc7) x3.length) x3,row nilH 67 (rowV q13 x12.length) x12,row nilH 3 (rowV q15 x14.length) x14,rowG (FA q17) 23 (rowV q19 v18.length) v18,row nilH 3 (rowV q22 x21.length) x21,row nilH 95 (rowV (some b23,(x14.length:Int).toNat) ((x14.length:Int).toNat)) v28,row nilH 3 (rowV (some gg34,cc35) x30.length) x30,blk b32 [.int .i64 v318,.int .i64 v319,.bool v320] 95]) () ⟨rfl,rfl,rfl,rfl,rfl,rfl,rfl,rfl,rfl,rfl,trivial⟩ ⟨rfl,trivial⟩ (fun w s=>s) ?_
        rintro ⟨v317,v318,v319,v320⟩ ⟨⟩ y321 H hd39 KL39 hL39
        try dsimp only [Ex.then] at H
        refine cq [(28,_),(2,_),(4,_),(6,_),(12,_),(15,_),(16,_),(17,_),(20,_),(26,_),(27,_)] ?_
        refine T.seq fun K43 hK43=>T.seq fun K44 hK44=>?_
        try dsimp only [List.set,List.cons_append,List.nil_append]
        refine T.region (rM rfl (rM rfl (rp (Pu.lenSl sl23 rfl) (rp (Pu.bin rfl rfl rfl) (RS.nil (hK44 _ _ ?_))))))
        refine T.condP rfl (fun hc322=>?_) (fun hc322=>?_)
        ·have H:=ifT hc322 H
         refine T.skip (hK43 _ _ (cq [(2,_),(4,_),(6,_),(12,_),(15,_),(16,_),(17,_),(20,_),(26,_),(27,_),(28,_)] ?_))
         refine T.seq fun K45 hK45=>T.block (T.seq fun K46 hK46=>?_)
         try dsimp only [List.set,List.cons_append,List.nil_append]
         refine T.region (rq (Qt.ldBA (us:=[_,_,_]) 1 ty36 rfl rfl rfl rfl) (rM rfl (rM rfl (rM rfl (rM rfl (rM rfl (rM rfl ?_)))))))
         obtain ⟨x323,hx323,H⟩:=bindE H
         refine rq (Qt.call (vs:=[.agg #[.int .i64 a0_g.w,.int .i64 a0_g.h,.slice p0 a0_g.tiles.length c0],.int .i64 a2_class,rowV q13 x12.length,rowV (some gg34,cc35) x30.length,rowV q15 x14.length,rowV (some b23,(x14.length:Int).toNat) ((x14.length:Int).toNat),.int .i64 v317]) ent53 rfl fun w s=>throngref13_over_walk a0_g a2_class x12 x30 x14 v28 v317 w ((Rd.base h0) w s) ((Rd.ofRowN 4 rfl) w s) ((Rd.ofRowN 9 rfl) w s) ((Rd.ofRowN 5 rfl) w s) ((Rd.ofRowN 8 rfl) w s) hx323) (RS.solid (Sd.alloc zr95 rfl) rfl rfl fun b324=>RS.solid (Sd.stB (cs':=[_,_,_]) 11 ty95 rfl rfl rfl rfl rfl rfl rfl rfl) rfl rfl fun _=>RS.nil (hK46 _ _ (cq [(2,_),(4,_),(6,_),(12,_),(15,_),(16,_),(17,_),(20,_),(26,_),(27,_),(28,_),(29,_)] ?_)))
         refine T.seq fun K47 hK47=>?_
         try dsimp only [List.set,List.cons_append,List.nil_append]
         refine T.region (rq (Qt.ldBA (us:=[_,_,_]) 11 ty95 rfl rfl rfl rfl) (rq (Qt.ldBA (us:=[_,_,_]) 10 ty95 rfl rfl rfl rfl) ?_))
         obtain ⟨x325,hx325,H⟩:=bindE H
         refine rq (Qt.call (vs:=[.agg #[.int .i64 x323.cost,.int .i64 x323.count,.bool x323.no],.agg #[.int .i64 v318,.int .i64 v319,.bool v320]]) ent54 rfl fun w s=>throngref13_better_walk x323 (⟨v318,v319,v320⟩:PWay) w  hx325) (RS.nil (hK47 _ _ ?_))
         refine T.cond rfl (fun hc326=>?_) (fun hc326=>?_)
         ·have H:=ifT hc326 H
          refine cq [(2,_),(4,_),(6,_),(12,_),(15,_),(16,_),(17,_),(20,_),(26,_),(27,_),(28,_),(29,_)] ?_
          try dsimp only [List.set,List.cons_append,List.nil_append]
          refine T.region (rq (Qt.ldBA (us:=[_,_,_]) 11 ty95 rfl rfl rfl rfl) (RS.solid (Sd.stB (cs':=[_,_,_]) 10 ty95 rfl rfl rfl rfl rfl rfl rfl rfl) rfl rfl fun _=>RS.nil (hK45 _ _ ?_)))
          try dsimp only [List.set,List.cons_append,List.nil_append]
          refine T.region (rM rfl ?_)
          obtain ⟨g327,H⟩:=gdE H
          refine rp (Pu.addS rfl rfl g327) (rA rfl (RS.nil (hL39 _ _ ((v317 + 1),x323.cost,x323.count,x323.no) () H ⟨rfl,rfl,rfl,rfl,rfl,rfl,rfl,rfl,rfl,rfl,trivial⟩ ⟨rfl,trivial⟩ (fun w s=>s.pick [0,1,2,3,4,5,6,7,8,9,10] (by decide) rfl))))
         ·have H:=ifB hc326 H
          refine T.skip (hK45 _ _ (cq [(2,_),(4,_),(6,_),(12,_),(15,_),(16,_),(17,_),(20,_),(26,_),(27,_),(28,_)] ?_))
          try dsimp only [List.set,List.cons_append,List.nil_append]
          refine T.region (rM rfl ?_)
          obtain ⟨g328,H⟩:=gdE H
          refine rp (Pu.addS rfl rfl g328) (rA rfl (RS.nil (hL39 _ _ ((v317 + 1),v318,v319,v320) () H ⟨rfl,rfl,rfl,rfl,rfl,rfl,rfl,rfl,rfl,rfl,trivial⟩ ⟨rfl,trivial⟩ (fun w s=>s.pick [0,1,2,3,4,5,6,7,8,9,10] (by decide) rfl))))
        ·have H:=ifF hc322 H
         obtain rfl:=hd39 _ H
         refine T.xt (hJ39 _ _ (v318,v319,v320) () HX39 ⟨rfl,rfl,rfl,rfl,rfl,rfl,rfl,rfl,rfl,rfl,trivial⟩ trivial (fun w s=>s))
      ·intro z36 H HX36 hJ36
       refine T.condP rfl (fun hc329=>?_) (fun hc329=>?_)
       ·have H:=ifT hc329 H
        refine cq [(2,_),(4,_),(5,_),(6,_),(12,_),(15,_),(16,_),(17,_),(20,_),(26,_),(27,_)] ?_
        try dsimp only [List.set,List.cons_append,List.nil_append]
        refine T.region (rM rfl (rM rfl ?_))
        obtain ⟨g330,H⟩:=gdE H
        refine rp (Pu.indexSl sl23 rfl rfl g330) (rq (Qt.ld0 (α:=Int) (Rd.ofRowN 9 rfl) ty3 rfl rfl g330 (by rintro _ _ rfl; rfl)) (rp (Pu.build (cells:=[_,_,_]) st95 rfl rfl) (RS.solid (Sd.stB (cs':=[_,_,_]) 10 ty95 rfl rfl rfl rfl rfl rfl rfl rfl) rfl rfl fun _=>?_)))
        obtain rfl:=sj H
        refine RS.nil (hJ36 _ _ ((gi x30 a5_goal),false) () HX36 ⟨rfl,rfl,rfl,rfl,rfl,rfl,rfl,rfl,rfl,rfl,trivial⟩ trivial (fun w s=>s))
       ·have H:=ifF hc329 H
        obtain rfl:=sj H
        refine T.skip (hJ36 _ _ (0,true) () HX36 ⟨rfl,rfl,rfl,rfl,rfl,rfl,rfl,rfl,rfl,rfl,trivial⟩ trivial (fun w s=>s))
     ·intro z27 hz27 HX27 hJ27
      refine T.block ?_
      refine T.loopA (γ:=Unit) hz27 [(2,_),(4,_),(5,_),(6,_),(12,_),(14,_),(15,_),(16,_),(17,_),(20,_)] (fun (v331,l332) _=>[(22,.bool v331)]) (fun (v331,l332) _=>Sat w [fz q17,blk b1 [.int .i64 a0_g.w,.int .i64 a0_g.h,.slice p0 a0_g.tiles.length c0] 36,blk b2 [.int .i64 0,.slice none 0 0,.slice none 0 0] 52,row nilH 4 (rowV (some gg6,cc7) x3.length) x3,row nilH 67 (rowV q13 x12.length) x12,row nilH 3 (rowV q15 x14.length) x14,rowG (FA q17) 23 (rowV q19 v18.length) v18,row nilH 3 (rowV q22 x21.length) x21,row nilH 95 (rowV (some b23,(x14.length:Int).toNat) ((x14.length:Int).toNat)) l332]) () ⟨rfl,rfl,rfl,rfl,rfl,rfl,rfl,rfl,rfl,rfl,trivial⟩ ⟨rfl,trivial⟩ (fun w s=>s) ?_
      rintro ⟨v331,l332⟩ ⟨⟩ y333 H hd27 KL27 hL27
      try dsimp only [Ex.then] at H
      refine cq [(22,_),(2,_),(4,_),(5,_),(6,_),(12,_),(14,_),(15,_),(16,_),(17,_),(20,_)] ?_
      refine T.seq fun K48 hK48=>T.seq fun K49 hK49=>T.region (rM rfl (RS.nil (hK49 _ _ ?_)))
      refine T.cond rfl (fun hc334=>?_) (fun hc334=>?_)
      ·have H:=ifT hc334 H
       refine T.skip (hK48 _ _ ?_)
       refine T.block (T.seq fun K50 hK50=>T.region (rA rfl (RS.nil (hK50 _ _ ?_))))
       refine T.seq fun K51 hK51=>T.region (rA rfl (RS.nil (hK51 _ _ ?_)))
       refine T.joinE (σ:=Bool × List PWay) (γ:=Unit) H (fun s=>s) [(2,_),(4,_),(5,_),(6,_),(12,_),(14,_),(15,_),(16,_),(17,_),(20,_)] ⟨rfl,rfl,rfl,rfl,rfl,rfl,rfl,rfl,rfl,rfl,trivial⟩ (fun (v336,v337) _=>[(22,.bool v336)]) (fun (v336,v337) _=>Sat w [fz q17,blk b1 [.int .i64 a0_g.w,.int .i64 a0_g.h,.slice p0 a0_g.tiles.length c0] 36,blk b2 [.int .i64 0,.slice none 0 0,.slice none 0 0] 52,row nilH 4 (rowV (some gg6,cc7) x3.length) x3,row nilH 67 (rowV q13 x12.length) x12,row nilH 3 (rowV q15 x14.length) x14,rowG (FA q17) 23 (rowV q19 v18.length) v18,row nilH 3 (rowV q22 x21.length) x21,row nilH 95 (rowV (some b23,(x14.length:Int).toNat) ((x14.length:Int).toNat)) v337]) ?_ ?_
       ·rintro ⟨v336,v337⟩ ⟨⟩ H
        try dsimp only [Ex.then] at H
        refine Cont.conseq (fr':=[(22,_),(2,_),(4,_),(5,_),(6,_),(12,_),(14,_),(15,_),(16,_),(17,_),(20,_)]) ?_ ⟨rfl,rfl,rfl,rfl,rfl,rfl,rfl,rfl,rfl,rfl,rfl,trivial⟩ (fun _ s=>s)
        refine id (hL27 _ _ (v336,v337) () H ⟨rfl,rfl,rfl,rfl,rfl,rfl,rfl,rfl,rfl,rfl,trivial⟩ ⟨rfl,trivial⟩ (fun w s=>s))
       ·intro z335 hz335 HX335 hJ335
        refine T.block ?_
        refine T.loopA (γ:=Unit) hz335 [(2,_),(4,_),(5,_),(6,_),(12,_),(14,_),(15,_),(16,_),(17,_),(20,_)] (fun (v338,v339,l340) _=>[(22,.bool v338),(23,.int .i64 v339)]) (fun (v338,v339,l340) _=>Sat w [fz q17,blk b1 [.int .i64 a0_g.w,.int .i64 a0_g.h,.slice p0 a0_g.tiles.length c0] 36,blk b2 [.int .i64 0,.slice none 0 0,.slice none 0 0] 52,row nilH 4 (rowV (some gg6,cc7) x3.length) x3,row nilH 67 (rowV q13 x12.length) x12,row nilH 3 (rowV q15 x14.length) x14,rowG (FA q17) 23 (rowV q19 v18.length) v18,row nilH 3 (rowV q22 x21.length) x21,row nilH 95 (rowV (some b23,(x14.length:Int).toNat) ((x14.length:Int).toNat)) l340]) () ⟨rfl,rfl,rfl,rfl,rfl,rfl,rfl,rfl,rfl,rfl,trivial⟩ ⟨rfl,rfl,trivial⟩ (fun w s=>s) ?_
        rintro ⟨v338,v339,l340⟩ ⟨⟩ y341 H hd335 KL335 hL335
        try dsimp only [Ex.then] at H
        refine cq [(22,_),(23,_),(2,_),(4,_),(5,_),(6,_),(12,_),(14,_),(15,_),(16,_),(17,_),(20,_)] ?_
        refine T.seq fun K52 hK52=>T.seq fun K53 hK53=>?_
        try dsimp only [List.set,List.cons_append,List.nil_append]
        refine T.region (rM rfl (rM rfl (rp (Pu.lenSl sl23 rfl) (rp (Pu.bin rfl rfl rfl) (RS.nil (hK53 _ _ ?_))))))
        refine T.condP rfl (fun hc342=>?_) (fun hc342=>?_)
        ·have H:=ifT hc342 H
         refine T.skip (hK52 _ _ (cq [(2,_),(4,_),(5,_),(6,_),(12,_),(14,_),(15,_),(16,_),(17,_),(20,_),(22,_),(23,_)] ?_))
         refine T.seq fun K54 hK54=>T.block (T.seq fun K55 hK55=>T.region (rA rfl (RS.nil (hK55 _ _ ?_))))
         refine T.joinE (σ:=Bool × List PWay) (γ:=Unit) H (fun s=>s) [(2,_),(4,_),(5,_),(6,_),(12,_),(14,_),(15,_),(16,_),(17,_),(20,_),(23,_)] ⟨rfl,rfl,rfl,rfl,rfl,rfl,rfl,rfl,rfl,rfl,rfl,trivial⟩ (fun (v344,v345) _=>[(22,.bool v344)]) (fun (v344,v345) _=>Sat w [fz q17,blk b1 [.int .i64 a0_g.w,.int .i64 a0_g.h,.slice p0 a0_g.tiles.length c0] 36,blk b2 [.int .i64 0,.slice none 0 0,.slice none 0 0] 52,row nilH 4 (rowV (some gg6,cc7) x3.length) x3,row nilH 67 (rowV q13 x12.length) x12,row nilH 3 (rowV q15 x14.length) x14,rowG (FA q17) 23 (rowV q19 v18.length) v18,row nilH 3 (rowV q22 x21.length) x21,row nilH 95 (rowV (some b23,(x14.length:Int).toNat) ((x14.length:Int).toNat)) v345]) ?_ ?_
         ·rintro ⟨v344,v345⟩ ⟨⟩ H
          try dsimp only [Ex.then] at H
          refine Cont.conseq (fr':=[(22,_),(2,_),(4,_),(5,_),(6,_),(12,_),(14,_),(15,_),(16,_),(17,_),(20,_),(23,_)]) ?_ ⟨rfl,rfl,rfl,rfl,rfl,rfl,rfl,rfl,rfl,rfl,rfl,rfl,trivial⟩ (fun _ s=>s)
          refine id (hK54 _ _ ?_)
          try dsimp only [List.set,List.cons_append,List.nil_append]
          refine T.region (rM rfl ?_)
          obtain ⟨g346,H⟩:=gdE H
          refine rp (Pu.addS rfl rfl g346) (rA rfl (RS.nil (hL335 _ _ (v344,(v339 + 1),v345) () H ⟨rfl,rfl,rfl,rfl,rfl,rfl,rfl,rfl,rfl,rfl,trivial⟩ ⟨rfl,rfl,trivial⟩ (fun w s=>s))))
         ·intro z343 hz343 HX343 hJ343
          refine T.block ?_
          refine T.loopA (γ:=Unit) hz343 [(2,_),(4,_),(5,_),(6,_),(12,_),(14,_),(15,_),(16,_),(17,_),(20,_),(23,_)] (fun (v347,v348,l349) _=>[(22,.bool v347),(24,.int .i64 v348)]) (fun (v347,v348,l349) _=>Sat w [fz q17,blk b1 [.int .i64 a0_g.w,.int .i64 a0_g.h,.slice p0 a0_g.tiles.length c0] 36,blk b2 [.int .i64 0,.slice none 0 0,.slice none 0 0] 52,row nilH 4 (rowV (some gg6,cc7) x3.length) x3,row nilH 67 (rowV q13 x12.length) x12,row nilH 3 (rowV q15 x14.length) x14,rowG (FA q17) 23 (rowV q19 v18.length) v18,row nilH 3 (rowV q22 x21.length) x21,row nilH 95 (rowV (some b23,(x14.length:Int).toNat) ((x14.length:Int).toNat)) l349]) () ⟨rfl,rfl,rfl,rfl,rfl,rfl,rfl,rfl,rfl,rfl,rfl,trivial⟩ ⟨rfl,rfl,trivial⟩ (fun w s=>s) ?_
          rintro ⟨v347,v348,l349⟩ ⟨⟩ y350 H hd343 KL343 hL343
          try dsimp only [Ex.then] at H
          refine cq [(22,_),(24,_),(2,_),(4,_),(5,_),(6,_),(12,_),(14,_),(15,_),(16,_),(17,_),(20,_),(23,_)] ?_
          refine T.seq fun K56 hK56=>T.seq fun K57 hK57=>?_
          try dsimp only [List.set,List.cons_append,List.nil_append]
          refine T.region (rM rfl (rM rfl (rp (Pu.lenSl sl23 rfl) (rp (Pu.bin rfl rfl rfl) (RS.nil (hK57 _ _ ?_))))))
          refine T.condP rfl (fun hc351=>?_) (fun hc351=>?_)
          ·have H:=ifT hc351 H
           refine T.skip (hK56 _ _ (cq [(2,_),(4,_),(5,_),(6,_),(12,_),(14,_),(15,_),(16,_),(17,_),(20,_),(22,_),(23,_),(24,_)] ?_))
           refine T.seq fun K58 hK58=>T.block (T.seq fun K59 hK59=>?_)
           refine T.exP (fun w s=>s.freeze 6 rfl) fun hh352 hz353=>?_
           try dsimp only [List.set,List.cons_append,List.nil_append]
           refine T.drawn (fun _=>True) [(0,.rd),(1,.pu),(2,.pu),(3,.pu),(4,.pu),(5,.pu),(6,.rd),(7,.pu),(8,.pu),(9,.pu),(10,.rd),(11,.so),(12,.br)] mixed (ClE.sat _ _) (by kernel_rfl) ?_
           refine dq rfl (Qt.ldBA (us:=[_,_,_]) 1 ty36 rfl rfl rfl rfl) (dp rfl (Pu.move rfl) (dp rfl (Pu.move rfl) (dp rfl (Pu.move rfl) (dp rfl (Pu.move rfl) ?_))))
           obtain ⟨g354,H⟩:=gdE H
           refine RD.know (p:=∃ g cap,q19 = (some g,cap)) (fun w s=>(R2.some' (fa_R2 hz353) (pos_of g354))) ?_
           rintro ⟨gg355,cc356,rfl⟩
           refine dp rfl (Pu.indexSl sl92 rfl rfl g354) ?_
           obtain ⟨c357,hc358,ha359⟩:=R2.el (α:=(List Int)) (fa_R2 hz353) g354
           obtain ⟨u360,rfl,hu360⟩:=R_one hc358
           obtain ⟨p361,cc362,rfl⟩:=R_form hu360
           refine dq rfl (Qt.ldZ0 ty23 rfl ha359 (Held.fz 6 rfl) rfl) (dp rfl (Pu.move rfl) (dp rfl (Pu.move rfl) (dp rfl (Pu.move rfl) ?_)))
           obtain ⟨x363,hx363,H⟩:=bindE H
           refine dq rfl (Qt.call (vs:=[.agg #[.int .i64 a0_g.w,.int .i64 a0_g.h,.slice p0 a0_g.tiles.length c0],.int .i64 a2_class,rowV q13 x12.length,.slice p361 (gi v18 v339).length cc362,rowV q15 x14.length,rowV (some b23,(x14.length:Int).toNat) ((x14.length:Int).toNat),.int .i64 v348]) ent53 rfl fun w s=>throngref13_over_walk a0_g a2_class x12 (gi v18 v339) x14 l349 v348 w ((Rd.base h0) w s) ((Rd.ofRowN 4 rfl) w s) ((Rd.ofFz 0 rfl hu360) w s) ((Rd.ofRowN 5 rfl) w s) ((Rd.ofRowN 8 rfl) w s) hx363) (RD.solid rfl (.inl rfl) rfl rfl (Sd.alloc zr95 rfl) (fun _=>ClE.sat _ _) (fun _ _ _=>trivial) (fun _ _ _ s=>s.drop1) fun b364=>?_)
           refine RD.solid rfl (.inr rfl) rfl rfl (Sd.stB (cs':=[_,_,_]) 9 ty95 rfl rfl rfl rfl rfl rfl rfl rfl) (fun _=>ClE.sat _ _) (fun _ _ _=>trivial) (fun h=>nomatch h) fun _=>?_
           refine RD.nil (hK59 _ _ (cq [(2,_),(4,_),(5,_),(6,_),(12,_),(14,_),(15,_),(16,_),(17,_),(20,_),(22,_),(23,_),(24,_),(25,_)] ?_))
           refine T.seq fun K60 hK60=>?_
           try dsimp only [List.set,List.cons_append,List.nil_append]
           refine T.drawn (fun _=>True) [(0,.rd),(1,.pu),(2,.pu),(3,.pu),(4,.rd),(5,.rd)] mixed (ClE.sat _ _) (by kernel_rfl) ?_
           refine dq rfl (Qt.ldBA (us:=[_,_,_]) 9 ty95 rfl rfl rfl rfl) (dp rfl (Pu.move rfl) (dp rfl (Pu.move rfl) ?_))
           obtain ⟨g365,H⟩:=gdE H
           refine RD.know (fun w s=>(s.row_fits (q:=(some b23,(x14.length:Int).toNat)) (m:=(x14.length:Int).toNat) (k:=8) rfl)) fun hf366=>?_
           refine dp rfl (Pu.indexSl sl93 rfl rfl g365) (dq rfl (Qt.ldW (α:=PWay) (cs:=[_,_,_]) (Rd.ofRowN 8 rfl) ty95 rfl rfl (idx_of hf366.1 g365) rfl (by rintro _ _ rfl; rfl)) ?_)
           obtain ⟨x367,hx367,H⟩:=bindE H
           refine dq rfl (Qt.call (vs:=[.agg #[.int .i64 x363.cost,.int .i64 x363.count,.bool x363.no],.agg #[.int .i64 ((gi l349 v339).cost),.int .i64 ((gi l349 v339).count),.bool ((gi l349 v339).no)]]) ent54 rfl fun w s=>throngref13_better_walk x363 (gi l349 v339) w  hx367) (RD.nil (hK60 _ _ ?_))
           refine T.cond rfl (fun hc368=>?_) (fun hc368=>?_)
           ·have H:=ifT hc368 H
            refine cq [(2,_),(4,_),(5,_),(6,_),(12,_),(14,_),(15,_),(16,_),(17,_),(20,_),(23,_),(24,_),(25,_)] ?_
            refine T.seq fun K61 hK61=>?_
            try dsimp only [List.set,List.cons_append,List.nil_append]
            refine T.region (rM rfl (rM rfl (rq (Qt.ldBA (us:=[_,_,_]) 9 ty95 rfl rfl rfl rfl) ?_)))
            obtain ⟨g369,H⟩:=gdE H
            refine RS.know (fun w s=>(s.row_fits (q:=(some b23,(x14.length:Int).toNat)) (m:=(x14.length:Int).toNat) (k:=8) rfl)) fun hf370=>?_
            refine rp (Pu.indexSl sl93 rfl rfl g369) (RS.solid (Sd.st0 (α:=PWay) 8 x363 rfl ty95 rfl rfl rfl (idx_of hf370.1 g369) rfl rfl (by decide) rfl (by rintro _ _ rfl; rfl)) rfl rfl fun _=>RS.nil (hK61 _ _ (cq [(2,_),(4,_),(5,_),(6,_),(12,_),(14,_),(15,_),(16,_),(17,_),(20,_),(23,_),(24,_)] ?_)))
            refine T.region (rA rfl (RS.nil (hK58 _ _ ?_)))
            try dsimp only [List.set,List.cons_append,List.nil_append]
            refine T.region (rM rfl ?_)
            obtain ⟨g371,H⟩:=gdE H
            refine rp (Pu.addS rfl rfl g371) (rA rfl (RS.nil (hL343 _ _ (true,(v348 + 1),(si l349 v339 x363)) () H ⟨rfl,rfl,rfl,rfl,rfl,rfl,rfl,rfl,rfl,rfl,rfl,trivial⟩ ⟨rfl,rfl,trivial⟩ (fun w s=>(Sat.thaw hz353 6 rfl s).pick [0,1,2,3,4,5,6,7,8] (by decide) rfl))))
           ·have H:=ifB hc368 H
            refine T.skip (hK58 _ _ (cq [(2,_),(4,_),(5,_),(6,_),(12,_),(14,_),(15,_),(16,_),(17,_),(20,_),(22,_),(23,_),(24,_)] ?_))
            try dsimp only [List.set,List.cons_append,List.nil_append]
            refine T.region (rM rfl ?_)
            obtain ⟨g372,H⟩:=gdE H
            refine rp (Pu.addS rfl rfl g372) (rA rfl (RS.nil (hL343 _ _ (v347,(v348 + 1),l349) () H ⟨rfl,rfl,rfl,rfl,rfl,rfl,rfl,rfl,rfl,rfl,rfl,trivial⟩ ⟨rfl,rfl,trivial⟩ (fun w s=>(Sat.thaw hz353 6 rfl s).pick [0,1,2,3,4,5,6,7,8] (by decide) rfl))))
          ·have H:=ifF hc351 H
           obtain rfl:=hd343 _ H
           refine T.xt (hJ343 _ _ (v347,l349) () HX343 ⟨rfl,rfl,rfl,rfl,rfl,rfl,rfl,rfl,rfl,rfl,rfl,trivial⟩ ⟨rfl,trivial⟩ (fun w s=>s))
        ·have H:=ifF hc342 H
         obtain rfl:=hd335 _ H
         refine T.xt (hJ335 _ _ (v338,l340) () HX335 ⟨rfl,rfl,rfl,rfl,rfl,rfl,rfl,rfl,rfl,rfl,trivial⟩ ⟨rfl,trivial⟩ (fun w s=>s))
      ·have H:=ifB hc334 H
       obtain rfl:=hd27 _ H
       refine T.xt (hJ27 _ _ l332 () HX27 ⟨rfl,rfl,rfl,rfl,rfl,rfl,rfl,rfl,rfl,rfl,trivial⟩ trivial (fun w s=>s))
    ·intro z25 hz25 HX25 hJ25
     refine T.block ?_
     refine T.loopA (γ:=Unit) hz25 [(2,_),(4,_),(5,_),(6,_),(12,_),(14,_),(15,_),(16,_),(17,_),(19,_),(20,_)] (fun (v373,l374) _=>[(21,.int .i64 v373)]) (fun (v373,l374) _=>Sat w [fz q17,blk b1 [.int .i64 a0_g.w,.int .i64 a0_g.h,.slice p0 a0_g.tiles.length c0] 36,blk b2 [.int .i64 0,.slice none 0 0,.slice none 0 0] 52,row nilH 4 (rowV (some gg6,cc7) x3.length) x3,row nilH 67 (rowV q13 x12.length) x12,row nilH 3 (rowV q15 x14.length) x14,rowG (FA q17) 23 (rowV q19 v18.length) v18,row nilH 3 (rowV q22 x21.length) x21,row nilH 95 (rowV (some b23,(x14.length:Int).toNat) ((x14.length:Int).toNat)) l374]) () ⟨rfl,rfl,rfl,rfl,rfl,rfl,rfl,rfl,rfl,rfl,rfl,trivial⟩ ⟨rfl,trivial⟩ (fun w s=>s) ?_
     rintro ⟨v373,l374⟩ ⟨⟩ y375 H hd25 KL25 hL25
     try dsimp only [Ex.then] at H
     refine cq [(21,_),(2,_),(4,_),(5,_),(6,_),(12,_),(14,_),(15,_),(16,_),(17,_),(19,_),(20,_)] ?_
     refine T.seq fun K62 hK62=>T.seq fun K63 hK63=>?_
     try dsimp only [List.set,List.cons_append,List.nil_append]
     refine T.region (rM rfl (rM rfl (rp (Pu.lenSl sl23 rfl) (rp (Pu.bin rfl rfl rfl) (RS.nil (hK63 _ _ ?_))))))
     refine T.condP rfl (fun hc376=>?_) (fun hc376=>?_)
     ·have H:=ifT hc376 H
      refine T.skip (hK62 _ _ (cq [(2,_),(4,_),(5,_),(6,_),(12,_),(14,_),(15,_),(16,_),(17,_),(19,_),(20,_),(21,_)] ?_))
      refine T.seq fun K64 hK64=>T.block (T.seq fun K65 hK65=>?_)
      try dsimp only [List.set,List.cons_append,List.nil_append]
      refine T.region (rM rfl (rM rfl ?_))
      obtain ⟨g377,H⟩:=gdE H
      refine RS.know (fun w s=>(s.row_fits (q:=(some b23,(x14.length:Int).toNat)) (m:=(x14.length:Int).toNat) (k:=8) rfl)) fun hf378=>?_
      refine rp (Pu.indexSl sl93 rfl rfl g377) (rp (Pu.fieldAddr fd95_2 rfl) (RS.solid (Sd.stF (α:=PWay) 8 (⟨(gi l374 v373).cost,(gi l374 v373).count,true⟩:PWay) rfl ty4 rfl rfl rfl (idx_of hf378.1 g377) rfl rfl (by decide) rfl (by rintro _ _ rfl; rfl)) rfl rfl fun _=>RS.nil (hK65 _ _ (cq [(2,_),(4,_),(5,_),(6,_),(12,_),(14,_),(15,_),(16,_),(17,_),(19,_),(20,_),(21,_)] ?_))))
      refine T.seq fun K66 hK66=>?_
      try dsimp only [List.set,List.cons_append,List.nil_append]
      refine T.region (rM rfl (rM rfl (rM rfl ?_)))
      obtain ⟨g379,H⟩:=gdE H
      refine RS.know (p:=∃ g cap,q15 = (some g,cap)) (fun w s=>(s.row_some (k:=5) rfl (pos_of g379))) ?_
      rintro ⟨gg380,cc381,rfl⟩
      refine rp (Pu.indexSl sl23 rfl rfl g379) (rq (Qt.ld0 (α:=Int) (Rd.ofRowN 5 rfl) ty3 rfl rfl g379 (by rintro _ _ rfl; rfl)) ?_)
      obtain ⟨g382,H⟩:=gdE H
      refine RS.know (p:=∃ g cap,q22 = (some g,cap)) (fun w s=>(s.row_some (k:=7) rfl (pos_of g382))) ?_
      rintro ⟨gg383,cc384,rfl⟩
      refine rp (Pu.indexSl sl23 rfl rfl g382) (rq (Qt.ld0 (α:=Int) (Rd.ofRowN 7 rfl) ty3 rfl rfl g382 (by rintro _ _ rfl; rfl)) (rp (Pu.bin rfl rfl rfl) (RS.nil (hK66 _ _ ?_))))
      refine T.condP rfl (fun hc385=>?_) (fun hc385=>?_)
      ·have H:=ifT hc385 H
       refine cq [(2,_),(4,_),(5,_),(6,_),(12,_),(14,_),(15,_),(16,_),(17,_),(19,_),(20,_),(21,_)] ?_
       try dsimp only [List.set,List.cons_append,List.nil_append]
       refine T.region (rM rfl (rM rfl (rM rfl (rM rfl (rM rfl ?_)))))
       obtain ⟨g386,H⟩:=gdE H
       refine rp (Pu.indexSl sl23 rfl rfl g386) (rq (Qt.ld0 (α:=Int) (Rd.ofRowN 5 rfl) ty3 rfl rfl g386 (by rintro _ _ rfl; rfl)) ?_)
       obtain ⟨g387,H⟩:=gdE H
       refine rp (Pu.indexSl sl23 rfl rfl g387) (rq (Qt.ld0 (α:=Int) (Rd.ofRowN 7 rfl) ty3 rfl rfl g387 (by rintro _ _ rfl; rfl)) (rp (Pu.build (cells:=[_,_,_]) st95 rfl rfl) ?_))
       obtain ⟨g388,H⟩:=gdE H
       refine RS.know (fun w s=>(s.row_fits (q:=(some b23,(x14.length:Int).toNat)) (m:=(x14.length:Int).toNat) (k:=8) rfl)) fun hf389=>?_
       refine rp (Pu.indexSl sl93 rfl rfl g388) (RS.solid (Sd.st0 (α:=PWay) 8 (⟨(gi x21 (gi x14 v373)),0,false⟩:PWay) rfl ty95 rfl rfl rfl (idx_of hf389.1 g388) rfl rfl (by decide) rfl (by rintro _ _ rfl; rfl)) rfl rfl fun _=>RS.nil (hK64 _ _ (cq [(2,_),(4,_),(5,_),(6,_),(12,_),(14,_),(15,_),(16,_),(17,_),(19,_),(20,_),(21,_)] ?_)))
       try dsimp only [List.set,List.cons_append,List.nil_append]
       refine T.region (rM rfl ?_)
       obtain ⟨g390,H⟩:=gdE H
       refine rp (Pu.addS rfl rfl g390) (rA rfl (RS.nil (hL25 _ _ ((v373 + 1),(si (si l374 v373 (⟨(gi l374 v373).cost,(gi l374 v373).count,true⟩:PWay)) v373 (⟨(gi x21 (gi x14 v373)),0,false⟩:PWay))) () H ⟨rfl,rfl,rfl,rfl,rfl,rfl,rfl,rfl,rfl,rfl,rfl,trivial⟩ ⟨rfl,trivial⟩ (fun w s=>s))))
      ·have H:=ifF hc385 H
       refine T.skip (hK64 _ _ (cq [(2,_),(4,_),(5,_),(6,_),(12,_),(14,_),(15,_),(16,_),(17,_),(19,_),(20,_),(21,_)] ?_))
       try dsimp only [List.set,List.cons_append,List.nil_append]
       refine T.region (rM rfl ?_)
       obtain ⟨g391,H⟩:=gdE H
       refine rp (Pu.addS rfl rfl g391) (rA rfl (RS.nil (hL25 _ _ ((v373 + 1),(si l374 v373 (⟨(gi l374 v373).cost,(gi l374 v373).count,true⟩:PWay))) () H ⟨rfl,rfl,rfl,rfl,rfl,rfl,rfl,rfl,rfl,rfl,rfl,trivial⟩ ⟨rfl,trivial⟩ (fun w s=>s))))
     ·have H:=ifF hc376 H
      obtain rfl:=hd25 _ H
      refine T.xt (hJ25 _ _ l374 () HX25 ⟨rfl,rfl,rfl,rfl,rfl,rfl,rfl,rfl,rfl,rfl,trivial⟩ trivial (fun w s=>s))
   ·intro z16 hz16 HX16 hJ16
    refine T.block ?_
    refine T.loopA (γ:=Hp × (Option Nat × Nat)) hz16 [(2,_),(4,_),(5,_),(6,_),(12,_),(14,_),(15,_),(16,_)] (fun (v392,l394) (q393,q395)=>[(17,rowV q395 l394.length),(18,.int .i64 v392)]) (fun (v392,l394) (q393,q395)=>Sat w [fz q393,blk b1 [.int .i64 a0_g.w,.int .i64 a0_g.h,.slice p0 a0_g.tiles.length c0] 36,blk b2 [.int .i64 0,.slice none 0 0,.slice none 0 0] 52,row nilH 4 (rowV (some gg6,cc7) x3.length) x3,row nilH 67 (rowV q13 x12.length) x12,row nilH 3 (rowV q15 x14.length) x14,rowG (FA q393) 23 (rowV q395 l394.length) l394]) (hA,(none,0)) ⟨rfl,rfl,rfl,rfl,rfl,rfl,rfl,rfl,trivial⟩ ⟨rfl,rfl,trivial⟩ (fun w s=>s) ?_
    rintro ⟨v392,l394⟩ ⟨q393,q395⟩ y396 H hd16 KL16 hL16
    try dsimp only [Ex.then] at H
    refine cq [(17,_),(18,_),(2,_),(4,_),(5,_),(6,_),(12,_),(14,_),(15,_),(16,_)] ?_
    refine T.seq fun K67 hK67=>T.seq fun K68 hK68=>?_
    try dsimp only [List.set,List.cons_append,List.nil_append]
    refine T.region (rM rfl (rM rfl (rp (Pu.lenSl sl23 rfl) (rp (Pu.bin rfl rfl rfl) (RS.nil (hK68 _ _ ?_))))))
    refine T.condP rfl (fun hc397=>?_) (fun hc397=>?_)
    ·have H:=ifT hc397 H
     refine T.skip (hK67 _ _ (cq [(2,_),(4,_),(5,_),(6,_),(12,_),(14,_),(15,_),(16,_),(17,_),(18,_)] ?_))
     refine T.seq fun K69 hK69=>T.block ?_
     try dsimp only [List.set,List.cons_append,List.nil_append]
     refine T.weakS (S':=Sat w [fz q393,blk b1 [.int .i64 a0_g.w,.int .i64 a0_g.h,.slice p0 a0_g.tiles.length c0] 36,blk b2 [.int .i64 0,.slice none 0 0,.slice none 0 0] 52,row nilH 4 (rowV (some gg6,cc7) x3.length) x3,row nilH 67 (rowV q13 x12.length) x12,row nilH 3 (rowV q15 x14.length) x14,rowG (FA q393) 23 (rowV q395 l394.length) l394]) (fun w s=>s) ?_
     refine T.drawnS [1,2,3,4,5] [(0,.pu),(1,.wk),(2,.pu),(3,.pu),(4,.pu),(5,.pu),(6,.pu),(7,.wk),(8,.pu),(9,.wk),(10,.pu),(11,.pu),(12,.pu),(13,.wk),(14,.wk),(15,.so),(16,.so),(17,.br),(18,.pu)] mixed (by kernel_rfl) rfl ?_
     refine RD.p (fun w s=>s.pick [1,2,3,4,5] (by decide) rfl) rfl (Pu.move rfl) rfl rfl ?_
     refine RD.w (fun w s=>s.pick [1,2,3,4,5] (by decide) rfl) rfl (Qt.ldBA (us:=[_,_,_]) 0 ty36 rfl rfl rfl rfl) rfl rfl ?_
     refine RD.p (fun w s=>s.pick [1,2,3,4,5] (by decide) rfl) rfl (Pu.move rfl) rfl rfl (RD.p (fun w s=>s.pick [1,2,3,4,5] (by decide) rfl) rfl (Pu.move rfl) rfl rfl (RD.p (fun w s=>s.pick [1,2,3,4,5] (by decide) rfl) rfl (Pu.move rfl) rfl rfl (RD.p (fun w s=>s.pick [1,2,3,4,5] (by decide) rfl) rfl (Pu.move rfl) rfl rfl ?_)))
     obtain ⟨g398,H⟩:=gdE H
     refine RD.know (p:=∃ g cap,q15 = (some g,cap)) (fun w s=>(s.row_some (k:=5) rfl (pos_of g398))) ?_
     rintro ⟨gg399,cc400,rfl⟩
     refine RD.p (fun w s=>s.pick [1,2,3,4,5] (by decide) rfl) rfl (Pu.indexSl sl23 rfl rfl g398) rfl rfl ?_
     refine RD.w (fun w s=>s.pick [1,2,3,4,5] (by decide) rfl) rfl (Qt.ld0 (α:=Int) (Rd.ofRowN 4 rfl) ty3 rfl rfl g398 (by rintro _ _ rfl; rfl)) rfl rfl ?_
     refine RD.p (fun w s=>s.pick [1,2,3,4,5] (by decide) rfl) rfl (Pu.fieldAddr fd36_0 rfl) rfl rfl ?_
     refine RD.w (fun w s=>s.pick [1,2,3,4,5] (by decide) rfl) rfl (Qt.ldB 0 ty3 rfl rfl rfl) rfl rfl ?_
     refine RD.p (fun w s=>s.pick [1,2,3,4,5] (by decide) rfl) rfl (Pu.move rfl) rfl rfl (RD.p (fun w s=>s.pick [1,2,3,4,5] (by decide) rfl) rfl (Pu.move rfl) rfl rfl ?_)
     obtain ⟨g401,H⟩:=gdE H
     refine RD.p (fun w s=>s.pick [1,2,3,4,5] (by decide) rfl) rfl (Pu.indexSl sl23 rfl rfl g401) rfl rfl ?_
     refine RD.w (fun w s=>s.pick [1,2,3,4,5] (by decide) rfl) rfl (Qt.ld0 (α:=Int) (Rd.ofRowN 4 rfl) ty3 rfl rfl g401 (by rintro _ _ rfl; rfl)) rfl rfl ?_
     obtain ⟨x402,hx402,H⟩:=bindE H
     refine RD.w (fun w s=>s.pick [1,2,3,4,5] (by decide) rfl) rfl (Qt.call (vs:=[.int .i64 a0_g.w,.int .i64 (gi x14 v392)]) ent32 rfl fun w s=>throngref10_Of_walk a0_g.w (gi x14 v392) w  hx402) rfl rfl ?_
     obtain ⟨x403,hx403,H⟩:=bindE H
     refine RD.solid rfl (.inl rfl) rfl rfl (Sd.callN (vs:=[.agg #[.int .i64 a0_g.w,.int .i64 a0_g.h,.slice p0 a0_g.tiles.length c0],rowV (some gg6,cc7) x3.length,.int .i64 a2_class,.int .i64 (gi x14 v392),.int .i64 x402]) ent40 rfl (fun w s=>throngref13_far_walk a0_g x3 a2_class (gi x14 v392) x402 w ((Rd.base h0) w s) ((Rd.ofRowN 3 rfl) w s) hx403)) (fun _=>ClE.sat _ _) (fun _ w s=>s.pick [1,2,3,4,5] (by decide) rfl) (fun _ _ _ s=>s.drop1) fun q404=>?_
     refine RD.solid rfl (.inl rfl) rfl rfl (Sd.litS (cs:=[_]) sl92 zr23 rfl rfl rfl rfl rfl) (fun _=>ClE.sat _ _) (fun _ w s=>s.pick [1,2,3,4,5] (by decide) rfl) (fun _ _ _ s=>s.drop1) fun b405=>?_
     obtain ⟨g407,H⟩:=gdE H
     refine RD.solid rfl (.inr rfl) rfl rfl (Sd.absorb (F:=fun hA408=>[fz hA408,blk b1 [.int .i64 a0_g.w,.int .i64 a0_g.h,.slice p0 a0_g.tiles.length c0] 36,blk b2 [.int .i64 0,.slice none 0 0,.slice none 0 0] 52,row nilH 4 (rowV (some gg6,cc7) x3.length) x3,row nilH 67 (rowV q13 x12.length) x12,row nilH 3 (rowV (some gg399,cc400) x14.length) x14,rowG (FA hA408) 23 (rowV q395 l394.length) l394,dead,blk b405 [rowV q404 x403.length] 23]) (fun w s=>s) 0 7 rfl rfl (by decide) (fun hA408 hle w s=>(Sat.faUp 6 hle s rfl)) (fun hA408 ⟨st409le,_,st409a0,st409p⟩=>Sd.appAB (α:=(List Int)) 6 8 ([x403]:List (List Int)) rfl rfl ⟨[_],_,rfl,(Enc.mono st409p (row_R st409a0)),rfl⟩ sl92 zr23 rfl rfl rfl rfl (Nat.lt_of_lt_of_le g407 (by decide)) (Nat.le_trans (Nat.mul_le_mul_right _ (Nat.le_of_lt g407)) (by decide)))) (fun _=>ClE.sat _ _) (fun _ w s=>s.pick [1,2,3,4,5] (by decide) rfl) (fun h=>nomatch h) fun ⟨hA408,q406⟩=>?_
     try dsimp only
     refine RD.p (fun w s=>s.pick [1,2,3,4,5] (by decide) rfl) rfl (Pu.assign rfl) rfl rfl (RD.nil (hK69 _ _ (cq [(2,_),(4,_),(5,_),(6,_),(12,_),(14,_),(15,_),(16,_),(17,_),(18,_)] ?_)))
     try dsimp only [List.set,List.cons_append,List.nil_append]
     refine T.region (rM rfl ?_)
     obtain ⟨g410,H⟩:=gdE H
     refine rp (Pu.addS rfl rfl g410) (rA rfl (RS.nil (hL16 _ _ ((v392 + 1),(l394 ++ ([x403]:List (List Int)))) (hA408,q406) H ⟨rfl,rfl,rfl,rfl,rfl,rfl,rfl,rfl,trivial⟩ ⟨rfl,rfl,trivial⟩ (fun w s=>s.pick [0,1,2,3,4,5,6] (by decide) rfl))))
    ·have H:=ifF hc397 H
     obtain rfl:=hd16 _ H
     refine T.xt (hJ16 _ _ l394 (q393,q395) HX16 ⟨rfl,rfl,rfl,rfl,rfl,rfl,rfl,rfl,trivial⟩ ⟨rfl,trivial⟩ (fun w s=>s))
 ·intro hJ9
  refine RS.split 45 rfl (fun hc8=>?_) (fun hc8=>?_)
  ·refine ro (ro (ro (ro (ro (rp (Pu.pickT rfl rfl) ?_)))))
   exact hJ9 _ _ ⟨dOrT hc8,rfl,rfl,rfl,rfl,rfl,rfl,trivial⟩ (fun w s=>s)
  ·refine rM rfl (rM rfl (rp (Pu.indexSl sl59 rfl rfl (g10 (bne_of hc8))) (rq (Qt.ld0 (α:=Bool) (Rd.ofRowN 3 rfl) ty4 rfl rfl (g10 (bne_of hc8)) (by rintro _ _ rfl; rfl)) (rp (Pu.not rfl) (rp (Pu.pickF rfl rfl) ?_)))))
   exact hJ9 _ _ ⟨dOrFB (bne_of hc8),rfl,rfl,rfl,rfl,rfl,rfl,trivial⟩ (fun w s=>s)
theorem throngref0_EqRoute_walk (a0_a:Rte) (a1_b:Rte) (w:World) {v0 v1 v2 v3:Value} (h0:R (hpOf w) a0_a.portals [v0]) (h1:R (hpOf w) a0_a.sectors [v1]) (h2:R (hpOf w) a1_b.portals [v2]) (h3:R (hpOf w) a1_b.sectors [v3]) {r:Bool} (H:throngref0_EqRoute a0_a a1_b = some r):Calls Tryz.prog 27 #[.agg #[.int .i64 a0_a.cost,v0,v1],.agg #[.int .i64 a1_b.cost,v2,v3]] w fun e w'=>e = .returned (.bool r)∧Ext w w':=by
 have hm0:=R_max h0
 obtain ⟨p0,c0,rfl⟩:=R_form h0
 have hm1:=R_max h1
 obtain ⟨p1,c1,rfl⟩:=R_form h1
 have hm2:=R_max h2
 obtain ⟨p2,c2,rfl⟩:=R_form h2
 have hm3:=R_max h3
 obtain ⟨p3,c3,rfl⟩:=R_form h3
 unfold throngref0_EqRoute at H
 refine T.enter (args:=[_,_]) (S:=Sat w []) Tryz.func27 rfl rfl (Sat.start w) ?_
 refine T.seq fun K1 hK1=>T.region (RS.solid (Sd.box (cs:=[_,_,_]) rfl rfl) rfl rfl fun b1=>RS.solid (Sd.box (cs:=[_,_,_]) rfl rfl) rfl rfl fun b2=>rA rfl (RS.nil (hK1 _ _ (cq [(2,_),(3,_)] ?_))))
 refine T.seq fun K2 hK2=>T.region (rp (Pu.fieldAddr fd52_0 rfl) (rq (Qt.ldB 0 ty3 rfl rfl rfl) (rp (Pu.fieldAddr fd52_0 rfl) (rq (Qt.ldB 1 ty3 rfl rfl rfl) (rp (Pu.bin rfl rfl rfl) (rM rfl ?_))))))
 refine RS.joinB H 6 16 (fun b5=>.bool b5) [(2,_),(3,_)] ⟨rfl,rfl,trivial⟩ ?_ ?_
 ·intro b5 H
  refine rM rfl ?_
  refine RS.joinB H 6 23 (fun b8=>.bool b8) [] trivial ?_ ?_
  ·intro b8 H
   refine rA rfl (RS.nil (hK2 _ _ ?_))
   obtain rfl:=sj H
   refine T.rt (Cont.ret1 rfl rfl fun w' s=>?_)
   exact ⟨rfl,s.ext⟩
  ·intro z9 H hJ7
   refine RS.split 17 rfl (fun hc6=>?_) (fun hc6=>?_)
   ·have H:=ifT hc6 H
    refine rp (Pu.fieldAddr fd52_2 rfl) (rq (Qt.ldB 0 ty23 rfl rfl rfl) (rp (Pu.fieldAddr fd52_2 rfl) (rq (Qt.ldB 1 ty23 rfl rfl rfl) ?_)))
    obtain ⟨x10,hx10,H⟩:=bindE H
    refine rq (Qt.call (vs:=[.slice p1 a0_a.sectors.length c1,.slice p3 a1_b.sectors.length c3]) ent20 rfl fun w s=>throngref0_EqNumbers_walk a0_a.sectors a1_b.sectors w ((Rd.base h1) w s) ((Rd.base h3) w s) hx10) (rp (Pu.pickT rfl rfl) ?_)
    obtain rfl:=sj H
    exact hJ7 _ _ ⟨rfl,trivial⟩ (fun w s=>s)
   ·have H:=ifB hc6 H
    refine ro (ro (ro (ro (ro (rp (Pu.pickF rfl rfl) ?_)))))
    obtain rfl:=sj H
    exact hJ7 _ _ ⟨rfl,trivial⟩ (fun w s=>s)
 ·intro z11 H hJ4
  refine RS.splitP 10 rfl (fun hc3=>?_) (fun hc3=>?_)
  ·have H:=ifT hc3 H
   refine rp (Pu.fieldAddr fd52_1 rfl) (rq (Qt.ldB 0 ty23 rfl rfl rfl) (rp (Pu.fieldAddr fd52_1 rfl) (rq (Qt.ldB 1 ty23 rfl rfl rfl) ?_)))
   obtain ⟨x12,hx12,H⟩:=bindE H
   refine rq (Qt.call (vs:=[.slice p0 a0_a.portals.length c0,.slice p2 a1_b.portals.length c2]) ent20 rfl fun w s=>throngref0_EqNumbers_walk a0_a.portals a1_b.portals w ((Rd.base h0) w s) ((Rd.base h2) w s) hx12) (rp (Pu.pickT rfl rfl) ?_)
   obtain rfl:=sj H
   exact hJ4 _ _ ⟨rfl,rfl,rfl,trivial⟩ (fun w s=>s)
  ·have H:=ifF hc3 H
   refine ro (ro (ro (ro (ro (rp (Pu.pickF rfl rfl) ?_)))))
   obtain rfl:=sj H
   exact hJ4 _ _ ⟨rfl,rfl,rfl,trivial⟩ (fun w s=>s)
end Go.Proofs.YthdbofgcckjopaaGreat
