/-
  Texts of one's own, joined: PH PA.
-/
import Derived.Test.YtmngdgclldkcfaaGreatRows
import Derived.Test.YtmngdgclldkcfaaGreatW3
import Derived.Test.YtmngdgclldkcfaaGreatA6
import Derived.Test.YtmngdgclldkcfaaGreatA4
set_option linter.unusedVariables false
set_option linter.unusedSimpArgs false
set_option maxRecDepth 20000
set_option maxHeartbeats 4000000
namespace Go.Proofs.YtmngdgclldkcfaaGreat
open Go.Vg
open Enc (R)
theorem ent100:Ent Tryz.prog 100:=⟨_,_,Tryz.func100,by kernel_rfl,rfl⟩
theorem ent101:Ent Tryz.prog 101:=⟨_,_,Tryz.func101,by kernel_rfl,rfl⟩
theorem ent102:Ent Tryz.prog 102:=⟨_,_,Tryz.func102,by kernel_rfl,rfl⟩
theorem ent103:Ent Tryz.prog 103:=⟨_,_,Tryz.func103,by kernel_rfl,rfl⟩
theorem ent155:Ent Tryz.prog 155:=⟨_,_,Tryz.func155,by kernel_rfl,rfl⟩
theorem ent156:Ent Tryz.prog 156:=⟨_,_,Tryz.func156,by kernel_rfl,rfl⟩
theorem ent158:Ent Tryz.prog 158:=⟨_,_,Tryz.func158,by kernel_rfl,rfl⟩
theorem ent159:Ent Tryz.prog 159:=⟨_,_,Tryz.func159,by kernel_rfl,rfl⟩
theorem ent224:Ent Tryz.prog 224:=⟨_,_,Tryz.func224,by kernel_rfl,rfl⟩
theorem ent227:Ent Tryz.prog 227:=⟨_,_,Tryz.func227,by kernel_rfl,rfl⟩
theorem ent228:Ent Tryz.prog 228:=⟨_,_,Tryz.func228,by kernel_rfl,rfl⟩
theorem ent229:Ent Tryz.prog 229:=⟨_,_,Tryz.func229,by kernel_rfl,rfl⟩
theorem ent58:Ent Tryz.prog 58:=⟨_,_,Tryz.func58,by kernel_rfl,rfl⟩
theorem ent98:Ent Tryz.prog 98:=⟨_,_,Tryz.func98,by kernel_rfl,rfl⟩
theorem ent99:Ent Tryz.prog 99:=⟨_,_,Tryz.func99,by kernel_rfl,rfl⟩
theorem fd212_2:fdOff Tryz.prog 212 2 = some 2:=by kernel_rfl
theorem fd212_3:fdOff Tryz.prog 212 3 = some 5:=by kernel_rfl
theorem fd212_4:fdOff Tryz.prog 212 4 = some 6:=by kernel_rfl
theorem fd89_0:fdOff Tryz.prog 89 0 = some 0:=by kernel_rfl
theorem fd89_1:fdOff Tryz.prog 89 1 = some 1:=by kernel_rfl
theorem fd89_2:fdOff Tryz.prog 89 2 = some 2:=by kernel_rfl
theorem fd89_3:fdOff Tryz.prog 89 3 = some 3:=by kernel_rfl
theorem fd89_4:fdOff Tryz.prog 89 4 = some 4:=by kernel_rfl
theorem fd89_5:fdOff Tryz.prog 89 5 = some 5:=by kernel_rfl
theorem fd89_6:fdOff Tryz.prog 89 6 = some 6:=by kernel_rfl
theorem fd89_7:fdOff Tryz.prog 89 7 = some 7:=by kernel_rfl
theorem fd89_8:fdOff Tryz.prog 89 8 = some 8:=by kernel_rfl
theorem fd89_9:fdOff Tryz.prog 89 9 = some 9:=by kernel_rfl
theorem sl83:slTy Tryz.prog 83 = some (212,8,80):=by kernel_rfl
theorem st210:stTy Tryz.prog 210 = some ([.int .i64 0,.int .i64 0,.slice none 0 0],[(0,1),(1,1),(2,1)]):=by kernel_rfl
theorem st212:stTy Tryz.prog 212 = some ([.int .i64 0,.int .i64 0,.int .i64 0,.int .i64 0,.slice none 0 0,.int .i64 0,.int .u64 0,.int .i64 0],[(0,1),(1,1),(2,3),(5,1),(6,1),(7,1)]):=by kernel_rfl
theorem st89:stTy Tryz.prog 89 = some ([.int .i64 0,.int .i64 0,.int .i64 0,.int .i64 0,.int .i64 0,.slice none 0 0,.slice none 0 0,.slice none 0 0,.slice none 0 0,.slice none 0 0,.bool false],[(0,1),(1,1),(2,1),(3,1),(4,1),(5,1),(6,1),(7,1),(8,1),(9,1),(10,1)]):=by kernel_rfl
theorem ty212:tySz Tryz.prog 212 = some (8,true):=by kernel_rfl
theorem ty86:tySz Tryz.prog 86 = some (1,false):=by kernel_rfl
theorem ty87:tySz Tryz.prog 87 = some (1,false):=by kernel_rfl
theorem ty89:tySz Tryz.prog 89 = some (11,true):=by kernel_rfl
theorem zr212:zeroOf Tryz.prog 212 = some (.agg #[.int .i64 0,.int .i64 0,.int .i64 0,.int .i64 0,.slice none 0 0,.int .i64 0,.int .u64 0,.int .i64 0]):=by kernel_rfl
theorem zr89:zeroOf Tryz.prog 89 = some (.agg #[.int .i64 0,.int .i64 0,.int .i64 0,.int .i64 0,.int .i64 0,.slice none 0 0,.slice none 0 0,.slice none 0 0,.slice none 0 0,.slice none 0 0,.bool false]):=by kernel_rfl
theorem slices_Min_walk (a0_x:List Int) (w:World) {v0:Value} (h0:R (hpOf w) a0_x [v0]) {r:Int} (H:slices_Min a0_x = some r):Calls Tryz.prog 99 #[v0] w fun e w'=>e = .returned (.int .i64 r)∧Ext w w':=by
 have hm0:=R_max h0
 obtain ⟨p0,c0,rfl⟩:=R_form h0
 unfold slices_Min at H
 refine T.enter (args:=[_]) (S:=Sat w []) Tryz.func99 rfl rfl (Sat.start w) ?_
 refine T.seq fun K1 hK1=>T.region (rA rfl (RS.nil (hK1 _ _ ?_)))
 refine T.seq fun K2 hK2=>T.seq fun K3 hK3=>T.region (rM rfl (rp (Pu.lenSl sl35 rfl) (rp (Pu.bin rfl rfl rfl) (RS.nil (hK3 _ _ ?_)))))
 refine T.joinE (σ:=Unit) (γ:=Unit) H (fun s=>s) [(0,_)] ⟨rfl,trivial⟩ (fun _ _=>[]) (fun _ _=>Sat w []) ?_ ?_
 ·rintro ⟨⟩ ⟨⟩ H
  try dsimp only [Ex.then] at H
  refine Cont.conseq (fr':=[(0,_)]) ?_ ⟨rfl,trivial⟩ (fun _ s=>s)
  refine id (hK2 _ _ ?_)
  refine T.seq fun K4 hK4=>T.region (rM rfl ?_)
  obtain ⟨g2,H⟩:=gdE H
  obtain ⟨bl3,ol4,rfl⟩:=R_ptr h0 (ne_of_pos (pos_of g2))
  refine rp (Pu.indexSl sl35 rfl rfl g2) (rq (Qt.ld0 (α:=Int) (Rd.base h0) ty3 rfl rfl g2 (by rintro _ _ rfl; rfl)) (rA rfl (RS.nil (hK4 _ _ (cq [(0,_),(3,_)] ?_)))))
  refine T.seq fun K5 hK5=>T.seq fun K6 hK6=>T.region (rA rfl (RS.nil (hK6 _ _ ?_)))
  refine T.joinE (σ:=Int) (γ:=Unit) H (fun s=>s) [] trivial (fun v6 _=>[(3,.int .i64 v6)]) (fun v6 _=>Sat w []) ?_ ?_
  ·rintro v6 ⟨⟩ H
   try dsimp only [Ex.then] at H
   refine Cont.conseq (fr':=[(3,_)]) ?_ ⟨rfl,trivial⟩ (fun _ s=>s)
   refine id (hK5 _ _ ?_)
   refine T.seq fun K7 hK7=>T.region (rM rfl (rA rfl (RS.nil (hK7 _ _ ?_))))
   obtain rfl:=sj H
   refine T.rt (Cont.ret1 rfl rfl fun w' s=>?_)
   exact ⟨rfl,s.ext⟩
  ·intro z5 hz5 HX5 hJ5
   refine T.block ?_
   refine T.loopA (γ:=Unit) hz5 [(0,_)] (fun (v7,v8) _=>[(3,.int .i64 v7),(4,.int .i64 v8)]) (fun (v7,v8) _=>Sat w []) () ⟨rfl,trivial⟩ ⟨rfl,rfl,trivial⟩ (fun w s=>s) ?_
   rintro ⟨v7,v8⟩ ⟨⟩ y9 H hd5 KL5 hL5
   try dsimp only [Ex.then] at H
   refine cq [(3,_),(4,_),(0,_)] ?_
   refine T.seq fun K8 hK8=>T.seq fun K9 hK9=>T.region (rM rfl (rM rfl (rp (Pu.lenSl sl35 rfl) (rp (Pu.bin rfl rfl rfl) (RS.nil (hK9 _ _ ?_))))))
   refine T.condP rfl (fun hc10=>?_) (fun hc10=>?_)
   ·have H:=ifT hc10 H
    refine T.skip (hK8 _ _ (cq [(0,_),(3,_),(4,_)] ?_))
    refine T.seq fun K10 hK10=>T.block (T.region (rM rfl (rM rfl (rM rfl ?_))))
    obtain ⟨g11,H⟩:=gdE H
    refine rp (Pu.indexSl sl35 rfl rfl g11) (rq (Qt.ld0 (α:=Int) (Rd.base h0) ty3 rfl rfl g11 (by rintro _ _ rfl; rfl)) (rp (Pu.minI rfl rfl) (rA rfl (RS.nil (hK10 _ _ (cq [(0,_),(3,_),(4,_)] ?_))))))
    refine T.region (rM rfl ?_)
    obtain ⟨g12,H⟩:=gdE H
    refine rp (Pu.addS rfl rfl g12) (rA rfl (RS.nil (hL5 _ _ ((min v7 (gi a0_x v8)),(v8 + 1)) () H ⟨rfl,trivial⟩ ⟨rfl,rfl,trivial⟩ (fun w s=>s))))
   ·have H:=ifF hc10 H
    obtain rfl:=hd5 _ H
    refine T.xt (hJ5 _ _ v7 () HX5 trivial ⟨rfl,trivial⟩ (fun w s=>s))
 ·intro z1 H HX1 hJ1
  refine T.condP rfl (fun hc13=>?_) (fun hc13=>?_)
  ·have H:=ifT hc13 H
   refine cq [(0,_)] ?_
   exact nomatch H
  ·have H:=ifF hc13 H
   obtain rfl:=sj H
   refine T.skip (hJ1 _ _ () () HX1 ⟨rfl,trivial⟩ trivial (fun w s=>s))
theorem slices_MaxI_walk (a0_x:List Int) (w:World) {v0:Value} (h0:R (hpOf w) a0_x [v0]) {r:Int} (H:slices_MaxI a0_x = some r):Calls Tryz.prog 100 #[v0] w fun e w'=>e = .returned (.int .i64 r)∧Ext w w':=by
 have hm0:=R_max h0
 obtain ⟨p0,c0,rfl⟩:=R_form h0
 unfold slices_MaxI at H
 refine T.enter (args:=[_]) (S:=Sat w []) Tryz.func100 rfl rfl (Sat.start w) ?_
 refine T.seq fun K1 hK1=>T.region (rA rfl (RS.nil (hK1 _ _ ?_)))
 refine T.seq fun K2 hK2=>T.seq fun K3 hK3=>T.region (rM rfl (rp (Pu.lenSl sl35 rfl) (rp (Pu.bin rfl rfl rfl) (RS.nil (hK3 _ _ ?_)))))
 refine T.joinE (σ:=Unit) (γ:=Unit) H (fun s=>s) [(0,_)] ⟨rfl,trivial⟩ (fun _ _=>[]) (fun _ _=>Sat w []) ?_ ?_
 ·rintro ⟨⟩ ⟨⟩ H
  try dsimp only [Ex.then] at H
  refine Cont.conseq (fr':=[(0,_)]) ?_ ⟨rfl,trivial⟩ (fun _ s=>s)
  refine id (hK2 _ _ ?_)
  refine T.seq fun K4 hK4=>T.region (rM rfl ?_)
  obtain ⟨g2,H⟩:=gdE H
  obtain ⟨bl3,ol4,rfl⟩:=R_ptr h0 (ne_of_pos (pos_of g2))
  refine rp (Pu.indexSl sl35 rfl rfl g2) (rq (Qt.ld0 (α:=Int) (Rd.base h0) ty3 rfl rfl g2 (by rintro _ _ rfl; rfl)) (rA rfl (RS.nil (hK4 _ _ (cq [(0,_),(3,_)] ?_)))))
  refine T.seq fun K5 hK5=>T.seq fun K6 hK6=>T.region (rA rfl (RS.nil (hK6 _ _ ?_)))
  refine T.joinE (σ:=Int) (γ:=Unit) H (fun s=>s) [] trivial (fun v6 _=>[(3,.int .i64 v6)]) (fun v6 _=>Sat w []) ?_ ?_
  ·rintro v6 ⟨⟩ H
   try dsimp only [Ex.then] at H
   refine Cont.conseq (fr':=[(3,_)]) ?_ ⟨rfl,trivial⟩ (fun _ s=>s)
   refine id (hK5 _ _ ?_)
   refine T.seq fun K7 hK7=>T.region (rM rfl (rA rfl (RS.nil (hK7 _ _ ?_))))
   obtain rfl:=sj H
   refine T.rt (Cont.ret1 rfl rfl fun w' s=>?_)
   exact ⟨rfl,s.ext⟩
  ·intro z5 hz5 HX5 hJ5
   refine T.block ?_
   refine T.loopA (γ:=Unit) hz5 [(0,_)] (fun (v7,v8) _=>[(3,.int .i64 v7),(4,.int .i64 v8)]) (fun (v7,v8) _=>Sat w []) () ⟨rfl,trivial⟩ ⟨rfl,rfl,trivial⟩ (fun w s=>s) ?_
   rintro ⟨v7,v8⟩ ⟨⟩ y9 H hd5 KL5 hL5
   try dsimp only [Ex.then] at H
   refine cq [(3,_),(4,_),(0,_)] ?_
   refine T.seq fun K8 hK8=>T.seq fun K9 hK9=>T.region (rM rfl (rM rfl (rp (Pu.lenSl sl35 rfl) (rp (Pu.bin rfl rfl rfl) (RS.nil (hK9 _ _ ?_))))))
   refine T.condP rfl (fun hc10=>?_) (fun hc10=>?_)
   ·have H:=ifT hc10 H
    refine T.skip (hK8 _ _ (cq [(0,_),(3,_),(4,_)] ?_))
    refine T.seq fun K10 hK10=>T.block (T.region (rM rfl (rM rfl (rM rfl ?_))))
    obtain ⟨g11,H⟩:=gdE H
    refine rp (Pu.indexSl sl35 rfl rfl g11) (rq (Qt.ld0 (α:=Int) (Rd.base h0) ty3 rfl rfl g11 (by rintro _ _ rfl; rfl)) (rp (Pu.maxI rfl rfl) (rA rfl (RS.nil (hK10 _ _ (cq [(0,_),(3,_),(4,_)] ?_))))))
    refine T.region (rM rfl ?_)
    obtain ⟨g12,H⟩:=gdE H
    refine rp (Pu.addS rfl rfl g12) (rA rfl (RS.nil (hL5 _ _ ((max v7 (gi a0_x v8)),(v8 + 1)) () H ⟨rfl,trivial⟩ ⟨rfl,rfl,trivial⟩ (fun w s=>s))))
   ·have H:=ifF hc10 H
    obtain rfl:=hd5 _ H
    refine T.xt (hJ5 _ _ v7 () HX5 trivial ⟨rfl,trivial⟩ (fun w s=>s))
 ·intro z1 H HX1 hJ1
  refine T.condP rfl (fun hc13=>?_) (fun hc13=>?_)
  ·have H:=ifT hc13 H
   refine cq [(0,_)] ?_
   exact nomatch H
  ·have H:=ifF hc13 H
   obtain rfl:=sj H
   refine T.skip (hJ1 _ _ () () HX1 ⟨rfl,trivial⟩ trivial (fun w s=>s))
theorem peer_counts_walk (a0_p:Per) (a1_l:List Int) (w:World) {v0 v1 v2 v3 v4 v5:Value} (h0:R (hpOf w) a0_p.mine [v0]) (h1:R (hpOf w) a0_p.inputs [v1]) (h2:R (hpOf w) a0_p.has [v2]) (h3:R (hpOf w) a0_p.acked [v3]) (h4:R (hpOf w) a0_p.hashes [v4]) (h5:R (hpOf w) a1_l [v5]) {r:Bool} (H:peer_counts a0_p a1_l = some r):Calls Tryz.prog 98 #[.agg #[.int .i64 a0_p.id,.int .i64 a0_p.players,.int .i64 a0_p.delay,.int .i64 a0_p.turn,.int .i64 a0_p.said,v0,v1,v2,v3,v4,.bool a0_p.split],v5] w fun e w'=>e = .returned (.bool r)∧Ext w w':=by
 have hm0:=R_max h0
 obtain ⟨p0,c0,rfl⟩:=R_form h0
 have hm1:=R_max h1
 obtain ⟨p1,c1,rfl⟩:=R_form h1
 have hm2:=R_max h2
 obtain ⟨p2,c2,rfl⟩:=R_form h2
 have hm3:=R_max h3
 obtain ⟨p3,c3,rfl⟩:=R_form h3
 have hm4:=R_max h4
 obtain ⟨p4,c4,rfl⟩:=R_form h4
 have hm5:=R_max h5
 obtain ⟨p5,c5,rfl⟩:=R_form h5
 unfold peer_counts at H
 refine T.enter (args:=[_,_]) (S:=Sat w []) Tryz.func98 rfl rfl (Sat.start w) ?_
 refine T.seq fun K1 hK1=>T.region (RS.solid (Sd.box (cs:=[_,_,_,_,_,_,_,_,_,_,_]) rfl rfl) rfl rfl fun b1=>rA rfl (RS.nil (hK1 _ _ ?_)))
 refine T.seq fun K2 hK2=>T.seq fun K3 hK3=>T.region (rM rfl (rp (Pu.lenSl sl35 rfl) (rM rfl (RS.nil (hK3 _ _ ?_)))))
 refine T.joinE (σ:=Unit) (γ:=Unit) H Ex.go [(1,_),(2,_)] ⟨rfl,rfl,trivial⟩ (fun _ _=>[]) (fun _ _=>Sat w [blk b1 [.int .i64 a0_p.id,.int .i64 a0_p.players,.int .i64 a0_p.delay,.int .i64 a0_p.turn,.int .i64 a0_p.said,.slice p0 a0_p.mine.length c0,.slice p1 a0_p.inputs.length c1,.slice p2 a0_p.has.length c2,.slice p3 a0_p.acked.length c3,.slice p4 a0_p.hashes.length c4,.bool a0_p.split] 89]) ?_ ?_
 ·rintro ⟨⟩ ⟨⟩ H
  try dsimp only [Ex.then] at H
  refine Cont.conseq (fr':=[(1,_),(2,_)]) ?_ ⟨rfl,rfl,trivial⟩ (fun _ s=>s)
  refine id (hK2 _ _ ?_)
  refine T.seq fun K4 hK4=>?_
  refine T.drawn (fun _=>True) [(0,.pu),(1,.pu),(2,.pu),(3,.rd),(4,.pu),(5,.pu),(6,.pu),(7,.pu),(8,.rd),(9,.pu),(10,.pu),(11,.rd),(12,.pu),(13,.rd),(14,.pu),(15,.pu),(16,.pu)] mixed (ClE.sat _ _) (by kernel_rfl) ?_
  refine dp rfl (Pu.move rfl) (dp rfl (Pu.lenSl sl35 rfl) (dp rfl (Pu.fieldAddr fd89_1 rfl) (dq rfl (Qt.ldB 0 ty3 rfl rfl rfl) (dp rfl (Pu.bin rfl rfl rfl) (dp rfl (Pu.move rfl) ?_)))))
  obtain ⟨g5,H⟩:=gdE H
  obtain ⟨g6,H⟩:=gdE H
  refine RD.joinV 10 45 (.bool (decide (((a1_l.length:Int) = a0_p.players)∧((gi a1_l (a0_p.id - 1)) = a0_p.said)))) [] trivial ?_ ?_
  ·refine dp rfl (Pu.assign rfl) (RD.nil (hK4 _ _ ?_))
   obtain rfl:=sj H
   refine T.rt (Cont.ret1 rfl rfl fun w' s=>?_)
   exact ⟨rfl,s.ext⟩
  ·intro hJ4
   refine RD.splitP 35 rfl (fun hc3=>?_) (fun hc3=>?_)
   ·refine dp rfl (Pu.move rfl) (dp rfl (Pu.fieldAddr fd89_0 rfl) (dq rfl (Qt.ldB 0 ty3 rfl rfl rfl) (dp rfl (Pu.subS rfl rfl (g5 hc3)) ?_)))
    obtain ⟨bl7,ol8,rfl⟩:=R_ptr h5 (ne_of_pos (pos_of (g6 hc3)))
    refine dp rfl (Pu.indexSl sl35 rfl rfl (g6 hc3)) (dq rfl (Qt.ld0 (α:=Int) (Rd.base h5) ty3 rfl rfl (g6 hc3) (by rintro _ _ rfl; rfl)) (dp rfl (Pu.fieldAddr fd89_4 rfl) (dq rfl (Qt.ldB 0 ty3 rfl rfl rfl) (dp rfl (Pu.bin rfl rfl rfl) (dp rfl (Pu.pickT rfl rfl) ?_)))))
    exact hJ4 _ ⟨dAndT hc3,trivial⟩
   ·refine dn rfl (dn rfl (dn rfl (dn rfl (dn rfl (dn rfl (dn rfl (dn rfl (dn rfl (dp rfl (Pu.pickF rfl rfl) ?_)))))))))
    exact hJ4 _ ⟨dAndF hc3,trivial⟩
 ·intro z2 hz2 HX2 hJ2
  refine T.block ?_
  refine T.loopA (γ:=Unit) hz2 [(1,_),(2,_),(7,_),(8,_)] (fun v9 _=>[(9,.int .i64 v9)]) (fun v9 _=>Sat w [blk b1 [.int .i64 a0_p.id,.int .i64 a0_p.players,.int .i64 a0_p.delay,.int .i64 a0_p.turn,.int .i64 a0_p.said,.slice p0 a0_p.mine.length c0,.slice p1 a0_p.inputs.length c1,.slice p2 a0_p.has.length c2,.slice p3 a0_p.acked.length c3,.slice p4 a0_p.hashes.length c4,.bool a0_p.split] 89]) () ⟨rfl,rfl,rfl,rfl,trivial⟩ ⟨rfl,trivial⟩ (fun w s=>s) ?_
  rintro v9 ⟨⟩ y10 H hd2 KL2 hL2
  try dsimp only [Ex.then] at H
  refine cq [(9,_),(1,_),(2,_),(7,_),(8,_)] ?_
  refine T.seq fun K5 hK5=>T.region (rp (Pu.bin rfl rfl rfl) (RS.nil (hK5 _ _ ?_)))
  refine T.seq fun K6 hK6=>?_
  refine T.condP rfl (fun hc11=>?_) (fun hc11=>?_)
  ·have H:=ifT hc11 H
   refine T.skip (hK6 _ _ ?_)
   refine T.seq fun K7 hK7=>T.block (T.seq fun K8 hK8=>T.region ?_)
   obtain ⟨g12,H⟩:=gdE H
   obtain ⟨bl13,ol14,rfl⟩:=R_ptr h5 (ne_of_pos (pos_of g12))
   refine rp (Pu.indexSl sl35 rfl rfl g12) (rq (Qt.ld0 (α:=Int) (Rd.base h5) ty3 rfl rfl g12 (by rintro _ _ rfl; rfl)) (rA rfl (RS.nil (hK8 _ _ (cq [(1,_),(2,_),(6,_),(7,_),(8,_),(9,_)] ?_)))))
   refine T.seq fun K9 hK9=>T.region (rM rfl (rp (Pu.fieldAddr fd89_2 rfl) (rq (Qt.ldB 0 ty3 rfl rfl rfl) ?_)))
   obtain ⟨g15,H⟩:=gdE H
   refine rp (Pu.subS rfl rfl g15) (rp (Pu.bin rfl rfl rfl) (rM rfl ?_))
   obtain ⟨g18,H⟩:=gdE H
   refine RS.joinV 6 24 (.bool (decide (((gi a1_l v9) < (a0_p.delay - 1)) ∨ ((a0_p.turn + 16) < (gi a1_l v9))))) [(1,_),(2,_),(6,_),(7,_),(8,_),(9,_)] ⟨rfl,rfl,rfl,rfl,rfl,rfl,trivial⟩ ?_ ?_
   ·refine rM rfl ?_
    refine RS.joinV 3 28 (.bool (decide ((((gi a1_l v9) < (a0_p.delay - 1)) ∨ ((a0_p.turn + 16) < (gi a1_l v9))) ∨ (1099511627776 < (gi a1_l v9))))) [(1,_),(2,_),(7,_),(8,_),(9,_)] ⟨rfl,rfl,rfl,rfl,rfl,trivial⟩ ?_ ?_
    ·refine RS.nil (hK9 _ _ ?_)
     refine T.condP rfl (fun hc21=>?_) (fun hc21=>?_)
     ·have H:=ifT hc21 H
      refine cq [] ?_
      refine T.seq fun K10 hK10=>T.region (rA rfl (RS.nil (hK10 _ _ ?_)))
      obtain rfl:=hd2 _ H
      have H:=HX2
      obtain rfl:=sj H
      refine T.rt (Cont.ret1 rfl rfl fun w' s=>?_)
      exact ⟨rfl,s.ext⟩
     ·have H:=ifF hc21 H
      refine T.skip (hK7 _ _ ?_)
      refine T.region ?_
      obtain ⟨g22,H⟩:=gdE H
      refine rp (Pu.addS rfl rfl g22) (rM rfl (RS.nil (hL2 _ _ (v9 + 1) () H ⟨rfl,rfl,rfl,rfl,trivial⟩ ⟨rfl,trivial⟩ (fun w s=>s))))
    ·intro hJ20
     refine RS.splitP 25 rfl (fun hc19=>?_) (fun hc19=>?_)
     ·refine ro (ro (rp (Pu.pickT rfl rfl) ?_))
      exact hJ20 _ _ ⟨dOrT hc19,rfl,rfl,rfl,rfl,rfl,trivial⟩ (fun w s=>s)
     ·refine rM rfl (rp (Pu.bin rfl rfl rfl) (rp (Pu.pickF rfl rfl) ?_))
      exact hJ20 _ _ ⟨dOrF hc19,rfl,rfl,rfl,rfl,rfl,trivial⟩ (fun w s=>s)
   ·intro hJ17
    refine RS.splitP 18 rfl (fun hc16=>?_) (fun hc16=>?_)
    ·refine ro (ro (ro (ro (ro (rp (Pu.pickT rfl rfl) ?_)))))
     exact hJ17 _ _ ⟨dOrT hc16,rfl,rfl,rfl,rfl,rfl,rfl,trivial⟩ (fun w s=>s)
    ·refine rM rfl (rp (Pu.fieldAddr fd89_3 rfl) (rq (Qt.ldB 0 ty3 rfl rfl rfl) (rp (Pu.addS rfl rfl (g18 hc16)) (rp (Pu.bin rfl rfl rfl) (rp (Pu.pickF rfl rfl) ?_)))))
     exact hJ17 _ _ ⟨dOrF hc16,rfl,rfl,rfl,rfl,rfl,rfl,trivial⟩ (fun w s=>s)
  ·have H:=ifF hc11 H
   obtain rfl:=hd2 _ H
   refine T.xt (hJ2 _ _ () () HX2 ⟨rfl,rfl,trivial⟩ trivial (fun w s=>s))
theorem peer_mine_walk (a0_p:Per) (w:World) {v0 v1 v2 v3 v4:Value} (h0:R (hpOf w) a0_p.mine [v0]) (h1:R (hpOf w) a0_p.inputs [v1]) (h2:R (hpOf w) a0_p.has [v2]) (h3:R (hpOf w) a0_p.acked [v3]) (h4:R (hpOf w) a0_p.hashes [v4]) {r:Bool} (H:peer_mine a0_p = some r):Calls Tryz.prog 101 #[.agg #[.int .i64 a0_p.id,.int .i64 a0_p.players,.int .i64 a0_p.delay,.int .i64 a0_p.turn,.int .i64 a0_p.said,v0,v1,v2,v3,v4,.bool a0_p.split]] w fun e w'=>e = .returned (.bool r)∧Ext w w':=by
 have hm0:=R_max h0
 obtain ⟨p0,c0,rfl⟩:=R_form h0
 have hm1:=R_max h1
 obtain ⟨p1,c1,rfl⟩:=R_form h1
 have hm2:=R_max h2
 obtain ⟨p2,c2,rfl⟩:=R_form h2
 have hm3:=R_max h3
 obtain ⟨p3,c3,rfl⟩:=R_form h3
 have hm4:=R_max h4
 obtain ⟨p4,c4,rfl⟩:=R_form h4
 unfold peer_mine at H
 refine T.enter (args:=[_]) (S:=Sat w []) Tryz.func101 rfl rfl (Sat.start w) ?_
 refine T.seq fun K1 hK1=>T.region (RS.solid (Sd.box (cs:=[_,_,_,_,_,_,_,_,_,_,_]) rfl rfl) rfl rfl fun b1=>rA rfl (RS.nil (hK1 _ _ ?_)))
 refine T.seq fun K2 hK2=>T.seq fun K3 hK3=>?_
 refine T.drawn (fun _=>True) [(0,.pu),(1,.rd),(2,.pu),(3,.pu),(4,.rd),(5,.pu),(6,.rd),(7,.rd),(8,.pu),(9,.pu)] mixed (ClE.sat _ _) (by kernel_rfl) ?_
 refine dp rfl (Pu.fieldAddr fd89_5 rfl) (dq rfl (Qt.ldB 0 ty86 rfl rfl rfl) (dp rfl (Pu.lenSl sl86 rfl) (dp rfl (Pu.fieldAddr fd89_4 rfl) (dq rfl (Qt.ldB 0 ty3 rfl rfl rfl) (dp rfl (Pu.fieldAddr fd89_8 rfl) (dq rfl (Qt.ldB 0 ty35 rfl rfl rfl) ?_))))))
 obtain ⟨x2,hx2,H⟩:=bindE H
 refine dq rfl (Qt.call (vs:=[.slice p3 a0_p.acked.length c3]) ent99 rfl fun w s=>slices_Min_walk a0_p.acked w ((Rd.base h3) w s) hx2) ?_
 obtain ⟨g3,H⟩:=gdE H
 refine dp rfl (Pu.subS rfl rfl g3) (dp rfl (Pu.bin rfl rfl rfl) (RD.nil (hK3 _ _ ?_)))
 refine T.condP rfl (fun hc4=>?_) (fun hc4=>?_)
 ·have H:=ifT hc4 H
  refine cq [] ?_
  refine T.seq fun K4 hK4=>T.region (rA rfl (RS.nil (hK4 _ _ ?_)))
  obtain rfl:=sj H
  refine T.rt (Cont.ret1 rfl rfl fun w' s=>?_)
  exact ⟨rfl,s.ext⟩
 ·have H:=ifF hc4 H
  refine T.skip (hK2 _ _ (cq [(1,_)] ?_))
  refine T.seq fun K5 hK5=>T.seq fun K6 hK6=>T.region (rp (Pu.fieldAddr fd89_5 rfl) (rq (Qt.ldB 0 ty86 rfl rfl rfl) (rp (Pu.lenSl sl86 rfl) (rM rfl (RS.nil (hK6 _ _ ?_))))))
  refine T.joinE (σ:=Unit) (γ:=Unit) H Ex.go [] trivial (fun _ _=>[]) (fun _ _=>Sat w [blk b1 [.int .i64 a0_p.id,.int .i64 a0_p.players,.int .i64 a0_p.delay,.int .i64 a0_p.turn,.int .i64 a0_p.said,.slice p0 a0_p.mine.length c0,.slice p1 a0_p.inputs.length c1,.slice p2 a0_p.has.length c2,.slice p3 a0_p.acked.length c3,.slice p4 a0_p.hashes.length c4,.bool a0_p.split] 89]) ?_ ?_
  ·rintro ⟨⟩ ⟨⟩ H
   try dsimp only [Ex.then] at H
   refine Cont.conseq (fr':=[]) ?_ trivial (fun _ s=>s)
   refine id (hK5 _ _ ?_)
   refine T.seq fun K7 hK7=>T.region (rA rfl (RS.nil (hK7 _ _ ?_)))
   obtain rfl:=sj H
   refine T.rt (Cont.ret1 rfl rfl fun w' s=>?_)
   exact ⟨rfl,s.ext⟩
  ·intro z5 hz5 HX5 hJ5
   refine T.block ?_
   refine T.loopA (γ:=Unit) hz5 [(1,_),(16,_),(17,_)] (fun v6 _=>[(18,.int .i64 v6)]) (fun v6 _=>Sat w [blk b1 [.int .i64 a0_p.id,.int .i64 a0_p.players,.int .i64 a0_p.delay,.int .i64 a0_p.turn,.int .i64 a0_p.said,.slice p0 a0_p.mine.length c0,.slice p1 a0_p.inputs.length c1,.slice p2 a0_p.has.length c2,.slice p3 a0_p.acked.length c3,.slice p4 a0_p.hashes.length c4,.bool a0_p.split] 89]) () ⟨rfl,rfl,rfl,trivial⟩ ⟨rfl,trivial⟩ (fun w s=>s) ?_
   rintro v6 ⟨⟩ y7 H hd5 KL5 hL5
   try dsimp only [Ex.then] at H
   refine cq [(18,_),(1,_),(16,_),(17,_)] ?_
   refine T.seq fun K8 hK8=>T.region (rp (Pu.bin rfl rfl rfl) (RS.nil (hK8 _ _ ?_)))
   refine T.seq fun K9 hK9=>?_
   refine T.condP rfl (fun hc8=>?_) (fun hc8=>?_)
   ·have H:=ifT hc8 H
    refine T.skip (hK9 _ _ ?_)
    refine T.seq fun K10 hK10=>T.block (T.seq fun K11 hK11=>T.region (rM rfl ?_))
    obtain ⟨g9,H⟩:=gdE H
    obtain ⟨bl10,ol11,rfl⟩:=R_ptr h0 (ne_of_pos (pos_of g9))
    refine rp (Pu.indexSl sl86 rfl rfl g9) ?_
    obtain ⟨c12,hc13,ha14⟩:=R_el (α:=Inp) h0 g9
    obtain ⟨u15,rfl,hu15⟩:=hc13
    obtain ⟨p16,cc17,rfl⟩:=R_form hu15
    refine rq (Qt.ldZ (cs:=[_,_,_]) ty210 rfl ha14 Held.base rfl) (RS.solid (Sd.alloc zr210 rfl) rfl rfl fun b18=>rA rfl (RS.solid (Sd.stB (cs':=[_,_,_]) 1 ty210 rfl rfl rfl rfl rfl rfl rfl rfl) rfl rfl fun _=>RS.nil (hK11 _ _ (cq [(1,_),(3,_),(4,_),(16,_),(17,_),(18,_)] ?_))))
    refine T.seq fun K12 hK12=>T.region (rq (Qt.ldBA (us:=[_,_,_]) 1 ty210 rfl rfl rfl rfl) ?_)
    obtain ⟨x19,hx19,H⟩:=bindE H
    refine rq (Qt.call (vs:=[.agg #[.int .i64 (gi a0_p.mine v6).turn,.int .i64 (gi a0_p.mine v6).player,.slice p16 ((gi a0_p.mine v6).commands).length cc17]]) ent151 rfl fun w s=>turns_May_walk (gi a0_p.mine v6) w ((Rd.base hu15) w s) hx19) (rp (Pu.not rfl) (rM rfl ?_))
    refine RS.joinV 6 32 (.bool (decide (((!x19) = true) ∨ (¬ (gi a0_p.mine v6).player = a0_p.id)))) [(1,_),(3,_),(4,_),(16,_),(17,_),(18,_)] ⟨rfl,rfl,rfl,rfl,rfl,rfl,trivial⟩ ?_ ?_
    ·refine rM rfl ?_
     obtain ⟨g24,H⟩:=gdE H
     obtain ⟨g25,H⟩:=gdE H
     obtain ⟨g26,H⟩:=gdE H
     refine RS.joinV 13 46 (.bool (decide ((((!x19) = true) ∨ (¬ (gi a0_p.mine v6).player = a0_p.id)) ∨ (¬ (gi a0_p.mine v6).turn = (((a0_p.said - (a0_p.mine.length:Int)) + 1) + v6))))) [(1,_),(16,_),(17,_),(18,_)] ⟨rfl,rfl,rfl,rfl,trivial⟩ ?_ ?_
     ·refine RS.nil (hK12 _ _ ?_)
      refine T.condP rfl (fun hc27=>?_) (fun hc27=>?_)
      ·have H:=ifT hc27 H
       refine cq [] ?_
       refine T.seq fun K13 hK13=>T.region (rA rfl (RS.nil (hK13 _ _ ?_)))
       obtain rfl:=hd5 _ H
       have H:=HX5
       obtain rfl:=sj H
       refine T.rt (Cont.ret1 rfl rfl fun w' s=>?_)
       exact ⟨rfl,s.ext⟩
      ·have H:=ifF hc27 H
       refine T.skip (hK10 _ _ ?_)
       refine T.region ?_
       obtain ⟨g28,H⟩:=gdE H
       refine rp (Pu.addS rfl rfl g28) (rM rfl (RS.nil (hL5 _ _ (v6 + 1) () H ⟨rfl,rfl,rfl,trivial⟩ ⟨rfl,trivial⟩ (fun w s=>s.pick [0] (by decide) rfl))))
     ·intro hJ23
      refine RS.splitP 33 rfl (fun hc22=>?_) (fun hc22=>?_)
      ·refine ro (ro (ro (ro (ro (ro (ro (ro (ro (ro (ro (ro (rp (Pu.pickT rfl rfl) ?_))))))))))))
       exact hJ23 _ _ ⟨dOrT hc22,rfl,rfl,rfl,rfl,trivial⟩ (fun w s=>s)
      ·refine rp (Pu.fieldAddr fd210_0 rfl) (rq (Qt.ldB 1 ty3 rfl rfl rfl) (rp (Pu.fieldAddr fd89_4 rfl) (rq (Qt.ldB 0 ty3 rfl rfl rfl) (rp (Pu.fieldAddr fd89_5 rfl) (rq (Qt.ldB 0 ty86 rfl rfl rfl) (rp (Pu.lenSl sl86 rfl) (rp (Pu.subS rfl rfl (g24 hc22)) (rp (Pu.addS rfl rfl (g25 hc22)) (rM rfl (rp (Pu.addS rfl rfl (g26 hc22)) (rp (Pu.bin rfl rfl rfl) (rp (Pu.pickF rfl rfl) ?_))))))))))))
       exact hJ23 _ _ ⟨dOrF hc22,rfl,rfl,rfl,rfl,trivial⟩ (fun w s=>s)
    ·intro hJ21
     refine RS.split 26 rfl (fun hc20=>?_) (fun hc20=>?_)
     ·refine ro (ro (ro (ro (ro (rp (Pu.pickT rfl rfl) ?_)))))
      exact hJ21 _ _ ⟨dOrT hc20,rfl,rfl,rfl,rfl,rfl,rfl,trivial⟩ (fun w s=>s)
     ·refine rp (Pu.fieldAddr fd210_1 rfl) (rq (Qt.ldB 1 ty3 rfl rfl rfl) (rp (Pu.fieldAddr fd89_0 rfl) (rq (Qt.ldB 0 ty3 rfl rfl rfl) (rp (Pu.bin rfl rfl rfl) (rp (Pu.pickF rfl rfl) ?_)))))
      exact hJ21 _ _ ⟨dOrF (bne_of hc20),rfl,rfl,rfl,rfl,rfl,rfl,trivial⟩ (fun w s=>s)
   ·have H:=ifF hc8 H
    obtain rfl:=hd5 _ H
    refine T.xt (hJ5 _ _ () () HX5 trivial trivial (fun w s=>s))
theorem peer_inputs_walk (a0_p:Per) (w:World) {v0 v1 v2 v3 v4:Value} (h0:R (hpOf w) a0_p.mine [v0]) (h1:R (hpOf w) a0_p.inputs [v1]) (h2:R (hpOf w) a0_p.has [v2]) (h3:R (hpOf w) a0_p.acked [v3]) (h4:R (hpOf w) a0_p.hashes [v4]) {r:Bool} (H:peer_inputs a0_p = some r):Calls Tryz.prog 103 #[.agg #[.int .i64 a0_p.id,.int .i64 a0_p.players,.int .i64 a0_p.delay,.int .i64 a0_p.turn,.int .i64 a0_p.said,v0,v1,v2,v3,v4,.bool a0_p.split]] w fun e w'=>e = .returned (.bool r)∧Ext w w':=by
 have hm0:=R_max h0
 obtain ⟨p0,c0,rfl⟩:=R_form h0
 have hm1:=R_max h1
 obtain ⟨p1,c1,rfl⟩:=R_form h1
 have hm2:=R_max h2
 obtain ⟨p2,c2,rfl⟩:=R_form h2
 have hm3:=R_max h3
 obtain ⟨p3,c3,rfl⟩:=R_form h3
 have hm4:=R_max h4
 obtain ⟨p4,c4,rfl⟩:=R_form h4
 unfold peer_inputs at H
 refine T.enter (args:=[_]) (S:=Sat w []) Tryz.func103 rfl rfl (Sat.start w) ?_
 refine T.seq fun K1 hK1=>T.region (RS.solid (Sd.box (cs:=[_,_,_,_,_,_,_,_,_,_,_]) rfl rfl) rfl rfl fun b1=>rA rfl (RS.nil (hK1 _ _ ?_)))
 refine T.seq fun K2 hK2=>T.seq fun K3 hK3=>T.region (rp (Pu.fieldAddr fd89_6 rfl) (rq (Qt.ldB 0 ty86 rfl rfl rfl) (rp (Pu.lenSl sl86 rfl) (rM rfl (RS.nil (hK3 _ _ (cq [(1,_),(6,_),(7,_),(8,_)] ?_)))))))
 refine T.joinE (σ:=Unit) (γ:=Unit) H Ex.go [] trivial (fun _ _=>[]) (fun _ _=>Sat w [blk b1 [.int .i64 a0_p.id,.int .i64 a0_p.players,.int .i64 a0_p.delay,.int .i64 a0_p.turn,.int .i64 a0_p.said,.slice p0 a0_p.mine.length c0,.slice p1 a0_p.inputs.length c1,.slice p2 a0_p.has.length c2,.slice p3 a0_p.acked.length c3,.slice p4 a0_p.hashes.length c4,.bool a0_p.split] 89]) ?_ ?_
 ·rintro ⟨⟩ ⟨⟩ H
  try dsimp only [Ex.then] at H
  refine Cont.conseq (fr':=[]) ?_ trivial (fun _ s=>s)
  refine id (hK2 _ _ ?_)
  refine T.seq fun K4 hK4=>T.region (rA rfl (RS.nil (hK4 _ _ ?_)))
  obtain rfl:=sj H
  refine T.rt (Cont.ret1 rfl rfl fun w' s=>?_)
  exact ⟨rfl,s.ext⟩
 ·intro z2 hz2 HX2 hJ2
  refine T.block ?_
  refine T.loopA (γ:=Unit) hz2 [(1,_),(6,_),(7,_)] (fun v3 _=>[(8,.int .i64 v3)]) (fun v3 _=>Sat w [blk b1 [.int .i64 a0_p.id,.int .i64 a0_p.players,.int .i64 a0_p.delay,.int .i64 a0_p.turn,.int .i64 a0_p.said,.slice p0 a0_p.mine.length c0,.slice p1 a0_p.inputs.length c1,.slice p2 a0_p.has.length c2,.slice p3 a0_p.acked.length c3,.slice p4 a0_p.hashes.length c4,.bool a0_p.split] 89]) () ⟨rfl,rfl,rfl,trivial⟩ ⟨rfl,trivial⟩ (fun w s=>s) ?_
  rintro v3 ⟨⟩ y4 H hd2 KL2 hL2
  try dsimp only [Ex.then] at H
  refine cq [(8,_),(1,_),(6,_),(7,_)] ?_
  refine T.seq fun K5 hK5=>T.region (rp (Pu.bin rfl rfl rfl) (RS.nil (hK5 _ _ ?_)))
  refine T.seq fun K6 hK6=>?_
  refine T.condP rfl (fun hc5=>?_) (fun hc5=>?_)
  ·have H:=ifT hc5 H
   refine T.skip (hK6 _ _ ?_)
   refine T.seq fun K7 hK7=>T.block (T.seq fun K8 hK8=>T.region ?_)
   obtain ⟨g6,H⟩:=gdE H
   obtain ⟨bl7,ol8,rfl⟩:=R_ptr h1 (ne_of_pos (pos_of g6))
   refine rp (Pu.indexSl sl86 rfl rfl g6) ?_
   obtain ⟨c9,hc10,ha11⟩:=R_el (α:=Inp) h1 g6
   obtain ⟨u12,rfl,hu12⟩:=hc10
   obtain ⟨p13,cc14,rfl⟩:=R_form hu12
   refine rq (Qt.ldZ (cs:=[_,_,_]) ty210 rfl ha11 Held.base rfl) (RS.solid (Sd.alloc zr210 rfl) rfl rfl fun b15=>RS.solid (Sd.stB (cs':=[_,_,_]) 1 ty210 rfl rfl rfl rfl rfl rfl rfl rfl) rfl rfl fun _=>RS.nil (hK8 _ _ (cq [(1,_),(4,_),(6,_),(7,_),(8,_)] ?_)))
   refine T.seq fun K9 hK9=>?_
   refine T.drawn (fun _=>True) [(0,.pu),(1,.rd),(2,.pu),(3,.rd),(4,.pu),(5,.pu),(6,.pu),(7,.rd),(8,.pu),(9,.rd),(10,.pu),(11,.pu),(12,.pu),(13,.pu),(14,.rd),(15,.pu),(16,.rd),(17,.pu),(18,.rd),(19,.pu),(20,.pu),(21,.rd),(22,.pu),(23,.pu)] mixed (ClE.sat _ _) (by kernel_rfl) ?_
   refine dp rfl (Pu.fieldAddr fd210_0 rfl) (dq rfl (Qt.ldB 1 ty3 rfl rfl rfl) (dp rfl (Pu.fieldAddr fd89_3 rfl) (dq rfl (Qt.ldB 0 ty3 rfl rfl rfl) (dp rfl (Pu.bin rfl rfl rfl) (dp rfl (Pu.move rfl) ?_)))))
   refine RD.joinV 6 23 (.bool (decide (((gi a0_p.inputs v3).turn < a0_p.turn) ∨ (a0_p.players < (gi a0_p.inputs v3).player)))) [(1,_),(4,_),(6,_),(7,_),(8,_)] ⟨rfl,rfl,rfl,rfl,rfl,trivial⟩ ?_ ?_
   ·refine dp rfl (Pu.move rfl) ?_
    obtain ⟨g20,H⟩:=gdE H
    obtain ⟨g21,H⟩:=gdE H
    refine RD.joinV 11 35 (.bool (decide ((((gi a0_p.inputs v3).turn < a0_p.turn) ∨ (a0_p.players < (gi a0_p.inputs v3).player)) ∨ ((gi a0_p.has ((gi a0_p.inputs v3).player - 1)) < (gi a0_p.inputs v3).turn)))) [(1,_),(6,_),(7,_),(8,_)] ⟨rfl,rfl,rfl,rfl,trivial⟩ ?_ ?_
    ·refine RD.nil (hK9 _ _ ?_)
     refine T.condP rfl (fun hc22=>?_) (fun hc22=>?_)
     ·have H:=ifT hc22 H
      refine cq [] ?_
      refine T.seq fun K10 hK10=>T.region (rA rfl (RS.nil (hK10 _ _ ?_)))
      obtain rfl:=hd2 _ H
      have H:=HX2
      obtain rfl:=sj H
      refine T.rt (Cont.ret1 rfl rfl fun w' s=>?_)
      exact ⟨rfl,s.ext⟩
     ·have H:=ifF hc22 H
      refine T.skip (hK7 _ _ ?_)
      refine T.region ?_
      obtain ⟨g23,H⟩:=gdE H
      refine rp (Pu.addS rfl rfl g23) (rM rfl (RS.nil (hL2 _ _ (v3 + 1) () H ⟨rfl,rfl,rfl,trivial⟩ ⟨rfl,trivial⟩ (fun w s=>s.pick [0] (by decide) rfl))))
    ·intro hJ19
     refine RD.splitP 24 rfl (fun hc18=>?_) (fun hc18=>?_)
     ·refine dn rfl (dn rfl (dn rfl (dn rfl (dn rfl (dn rfl (dn rfl (dn rfl (dn rfl (dn rfl (dp rfl (Pu.pickT rfl rfl) ?_))))))))))
      exact hJ19 _ ⟨dOrT hc18,rfl,rfl,rfl,rfl,trivial⟩
     ·refine dp rfl (Pu.fieldAddr fd210_0 rfl) (dq rfl (Qt.ldB 1 ty3 rfl rfl rfl) (dp rfl (Pu.fieldAddr fd89_7 rfl) (dq rfl (Qt.ldB 0 ty35 rfl rfl rfl) (dp rfl (Pu.fieldAddr fd210_1 rfl) (dq rfl (Qt.ldB 1 ty3 rfl rfl rfl) (dp rfl (Pu.subS rfl rfl (g20 hc18)) ?_))))))
      obtain ⟨bl24,ol25,rfl⟩:=R_ptr h2 (ne_of_pos (pos_of (g21 hc18)))
      refine dp rfl (Pu.indexSl sl35 rfl rfl (g21 hc18)) (dq rfl (Qt.ld0 (α:=Int) (Rd.base h2) ty3 rfl rfl (g21 hc18) (by rintro _ _ rfl; rfl)) (dp rfl (Pu.bin rfl rfl rfl) (dp rfl (Pu.pickF rfl rfl) ?_)))
      exact hJ19 _ ⟨dOrF hc18,rfl,rfl,rfl,rfl,trivial⟩
   ·intro hJ17
    refine RD.splitP 17 rfl (fun hc16=>?_) (fun hc16=>?_)
    ·refine dn rfl (dn rfl (dn rfl (dn rfl (dn rfl (dp rfl (Pu.pickT rfl rfl) ?_)))))
     exact hJ17 _ ⟨dOrT hc16,rfl,rfl,rfl,rfl,rfl,trivial⟩
    ·refine dp rfl (Pu.fieldAddr fd210_1 rfl) (dq rfl (Qt.ldB 1 ty3 rfl rfl rfl) (dp rfl (Pu.fieldAddr fd89_1 rfl) (dq rfl (Qt.ldB 0 ty3 rfl rfl rfl) (dp rfl (Pu.bin rfl rfl rfl) (dp rfl (Pu.pickF rfl rfl) ?_)))))
     exact hJ17 _ ⟨dOrF hc16,rfl,rfl,rfl,rfl,rfl,trivial⟩
  ·have H:=ifF hc5 H
   obtain rfl:=hd2 _ H
   refine T.xt (hJ2 _ _ () () HX2 trivial trivial (fun w s=>s))
theorem peer_May_walk (a0_p:Per) (w:World) {v0 v1 v2 v3 v4:Value} (h0:R (hpOf w) a0_p.mine [v0]) (h1:R (hpOf w) a0_p.inputs [v1]) (h2:R (hpOf w) a0_p.has [v2]) (h3:R (hpOf w) a0_p.acked [v3]) (h4:R (hpOf w) a0_p.hashes [v4]) {r:Bool} (H:peer_May a0_p = some r):Calls Tryz.prog 58 #[.agg #[.int .i64 a0_p.id,.int .i64 a0_p.players,.int .i64 a0_p.delay,.int .i64 a0_p.turn,.int .i64 a0_p.said,v0,v1,v2,v3,v4,.bool a0_p.split]] w fun e w'=>e = .returned (.bool r)∧Ext w w':=by
 have hm0:=R_max h0
 obtain ⟨p0,c0,rfl⟩:=R_form h0
 have hm1:=R_max h1
 obtain ⟨p1,c1,rfl⟩:=R_form h1
 have hm2:=R_max h2
 obtain ⟨p2,c2,rfl⟩:=R_form h2
 have hm3:=R_max h3
 obtain ⟨p3,c3,rfl⟩:=R_form h3
 have hm4:=R_max h4
 obtain ⟨p4,c4,rfl⟩:=R_form h4
 unfold peer_May at H
 refine T.enter (args:=[_]) (S:=Sat w []) Tryz.func58 rfl rfl (Sat.start w) ?_
 refine T.seq fun K1 hK1=>T.region (RS.solid (Sd.box (cs:=[_,_,_,_,_,_,_,_,_,_,_]) rfl rfl) rfl rfl fun b1=>rA rfl (RS.nil (hK1 _ _ ?_)))
 refine T.seq fun K2 hK2=>T.seq fun K3 hK3=>T.region (rp (Pu.fieldAddr fd89_1 rfl) (rq (Qt.ldB 0 ty3 rfl rfl rfl) (rp (Pu.bin rfl rfl rfl) (rM rfl ?_))))
 refine RS.joinV 4 10 (.bool (decide ((a0_p.players < 1) ∨ (8 < a0_p.players)))) [(1,_)] ⟨rfl,trivial⟩ ?_ ?_
 ·refine rM rfl ?_
  refine RS.joinV 4 15 (.bool (decide (((a0_p.players < 1) ∨ (8 < a0_p.players)) ∨ (a0_p.id < 1)))) [(1,_)] ⟨rfl,trivial⟩ ?_ ?_
  ·refine rM rfl ?_
   refine RS.joinV 6 22 (.bool (decide ((((a0_p.players < 1) ∨ (8 < a0_p.players)) ∨ (a0_p.id < 1)) ∨ (a0_p.players < a0_p.id)))) [(1,_)] ⟨rfl,trivial⟩ ?_ ?_
   ·refine rM rfl ?_
    refine RS.joinV 4 27 (.bool (decide (((((a0_p.players < 1) ∨ (8 < a0_p.players)) ∨ (a0_p.id < 1)) ∨ (a0_p.players < a0_p.id)) ∨ (a0_p.delay < 1)))) [(1,_)] ⟨rfl,trivial⟩ ?_ ?_
    ·refine rM rfl ?_
     refine RS.joinV 4 32 (.bool (decide ((((((a0_p.players < 1) ∨ (8 < a0_p.players)) ∨ (a0_p.id < 1)) ∨ (a0_p.players < a0_p.id)) ∨ (a0_p.delay < 1)) ∨ (8 < a0_p.delay)))) [(1,_)] ⟨rfl,trivial⟩ ?_ ?_
     ·refine rM rfl ?_
      refine RS.joinV 4 37 (.bool (decide (((((((a0_p.players < 1) ∨ (8 < a0_p.players)) ∨ (a0_p.id < 1)) ∨ (a0_p.players < a0_p.id)) ∨ (a0_p.delay < 1)) ∨ (8 < a0_p.delay)) ∨ (a0_p.turn < 0)))) [(1,_)] ⟨rfl,trivial⟩ ?_ ?_
      ·refine rM rfl ?_
       refine RS.joinV 4 42 (.bool (decide ((((((((a0_p.players < 1) ∨ (8 < a0_p.players)) ∨ (a0_p.id < 1)) ∨ (a0_p.players < a0_p.id)) ∨ (a0_p.delay < 1)) ∨ (8 < a0_p.delay)) ∨ (a0_p.turn < 0)) ∨ (1099511627776 < a0_p.turn)))) [(1,_)] ⟨rfl,trivial⟩ ?_ ?_
       ·refine RS.nil (hK3 _ _ ?_)
        refine T.condP rfl (fun hc16=>?_) (fun hc16=>?_)
        ·have H:=ifT hc16 H
         refine T.seq fun K4 hK4=>T.region (rA rfl (RS.nil (hK4 _ _ ?_)))
         obtain rfl:=sj H
         refine T.rt (Cont.ret1 rfl rfl fun w' s=>?_)
         exact ⟨rfl,s.ext⟩
        ·have H:=ifF hc16 H
         refine T.skip (hK2 _ _ ?_)
         refine T.seq fun K5 hK5=>T.seq fun K6 hK6=>T.region (rp (Pu.fieldAddr fd89_4 rfl) (rq (Qt.ldB 0 ty3 rfl rfl rfl) (rp (Pu.fieldAddr fd89_2 rfl) (rq (Qt.ldB 0 ty3 rfl rfl rfl) ?_))))
         obtain ⟨g17,H⟩:=gdE H
         refine rp (Pu.subS rfl rfl g17) (rp (Pu.bin rfl rfl rfl) (rM rfl ?_))
         obtain ⟨g20,H⟩:=gdE H
         obtain ⟨g21,H⟩:=gdE H
         refine RS.joinV 10 59 (.bool (decide ((a0_p.said < (a0_p.delay - 1)) ∨ (((a0_p.turn + a0_p.delay) - 1) < a0_p.said)))) [(1,_)] ⟨rfl,trivial⟩ ?_ ?_
         ·refine rM rfl ?_
          refine RS.joinV 4 64 (.bool (decide (((a0_p.said < (a0_p.delay - 1)) ∨ (((a0_p.turn + a0_p.delay) - 1) < a0_p.said)) ∨ (1099511627776 < a0_p.said)))) [(1,_)] ⟨rfl,trivial⟩ ?_ ?_
          ·refine rM rfl ?_
           refine RS.joinB H 6 71 (fun b26=>.bool b26) [(1,_)] ⟨rfl,trivial⟩ ?_ ?_
           ·intro b26 H
            refine rM rfl ?_
            refine RS.joinB H 6 78 (fun b29=>.bool b29) [(1,_)] ⟨rfl,trivial⟩ ?_ ?_
            ·intro b29 H
             refine RS.nil (hK6 _ _ ?_)
             refine T.cond rfl (fun hc30=>?_) (fun hc30=>?_)
             ·have H:=ifT hc30 H
              refine T.seq fun K7 hK7=>T.region (rA rfl (RS.nil (hK7 _ _ ?_)))
              obtain rfl:=sj H
              refine T.rt (Cont.ret1 rfl rfl fun w' s=>?_)
              exact ⟨rfl,s.ext⟩
             ·have H:=ifB hc30 H
              refine T.skip (hK5 _ _ ?_)
              refine T.seq fun K8 hK8=>T.seq fun K9 hK9=>?_
              refine T.drawn (fun _=>True) [(0,.pu),(1,.rd),(2,.rd),(3,.pu),(4,.rd),(5,.pu),(6,.pu),(7,.pu),(8,.pu),(9,.rd),(10,.rd),(11,.pu),(12,.rd),(13,.pu),(14,.pu),(15,.pu),(16,.pu),(17,.rd),(18,.pu),(19,.pu),(20,.pu),(21,.pu),(22,.pu),(23,.rd),(24,.pu),(25,.pu),(26,.rd),(27,.pu),(28,.pu)] mixed (ClE.sat _ _) (by kernel_rfl) ?_
              refine dp rfl (Pu.fieldAddr fd89_7 rfl) (dq rfl (Qt.ldB 0 ty35 rfl rfl rfl) ?_)
              obtain ⟨x31,hx31,H⟩:=bindE H
              refine dq rfl (Qt.call (vs:=[.slice p2 a0_p.has.length c2]) ent99 rfl fun w s=>slices_Min_walk a0_p.has w ((Rd.base h2) w s) hx31) (dp rfl (Pu.fieldAddr fd89_3 rfl) (dq rfl (Qt.ldB 0 ty3 rfl rfl rfl) ?_))
              obtain ⟨g32,H⟩:=gdE H
              refine dp rfl (Pu.subS rfl rfl g32) (dp rfl (Pu.bin rfl rfl rfl) (dp rfl (Pu.move rfl) ?_))
              refine RD.joinB H 7 93 (fun b35=>.bool b35) [(1,_)] ⟨rfl,trivial⟩ ?_ ?_
              ·intro b35 H
               refine dp rfl (Pu.move rfl) ?_
               refine RD.joinV 5 99 (.bool (decide ((b35 = true) ∨ (16 < (a0_p.hashes.length:Int))))) [(1,_)] ⟨rfl,trivial⟩ ?_ ?_
               ·refine dp rfl (Pu.move rfl) ?_
                refine RD.joinV 7 107 (.bool (decide (((b35 = true) ∨ (16 < (a0_p.hashes.length:Int))) ∨ (a0_p.turn < (a0_p.hashes.length:Int))))) [(1,_)] ⟨rfl,trivial⟩ ?_ ?_
                ·refine RD.nil (hK9 _ _ ?_)
                 refine T.condP rfl (fun hc40=>?_) (fun hc40=>?_)
                 ·have H:=ifT hc40 H
                  refine T.seq fun K10 hK10=>T.region (rA rfl (RS.nil (hK10 _ _ ?_)))
                  obtain rfl:=sj H
                  refine T.rt (Cont.ret1 rfl rfl fun w' s=>?_)
                  exact ⟨rfl,s.ext⟩
                 ·have H:=ifF hc40 H
                  refine T.skip (hK8 _ _ ?_)
                  refine T.seq fun K11 hK11=>T.region (rq (Qt.ldBA (us:=[_,_,_,_,_,_,_,_,_,_,_]) 0 ty89 rfl rfl rfl rfl) ?_)
                  obtain ⟨x41,hx41,H⟩:=bindE H
                  refine rq (Qt.call (vs:=[.agg #[.int .i64 a0_p.id,.int .i64 a0_p.players,.int .i64 a0_p.delay,.int .i64 a0_p.turn,.int .i64 a0_p.said,.slice p0 a0_p.mine.length c0,.slice p1 a0_p.inputs.length c1,.slice p2 a0_p.has.length c2,.slice p3 a0_p.acked.length c3,.slice p4 a0_p.hashes.length c4,.bool a0_p.split]]) ent101 rfl fun w s=>peer_mine_walk a0_p w ((Rd.base h0) w s) ((Rd.base h1) w s) ((Rd.base h2) w s) ((Rd.base h3) w s) ((Rd.base h4) w s) hx41) (rM rfl ?_)
                  refine RS.joinB H 4 114 (fun b44=>.bool b44) [(1,_)] ⟨rfl,trivial⟩ ?_ ?_
                  ·intro b44 H
                   refine rM rfl ?_
                   refine RS.joinB H 3 118 (fun b47=>.bool b47) [] trivial ?_ ?_
                   ·intro b47 H
                    refine rA rfl (RS.nil (hK11 _ _ ?_))
                    obtain rfl:=sj H
                    refine T.rt (Cont.ret1 rfl rfl fun w' s=>?_)
                    exact ⟨rfl,s.ext⟩
                   ·intro z48 H hJ46
                    refine RS.split 115 rfl (fun hc45=>?_) (fun hc45=>?_)
                    ·have H:=ifT hc45 H
                     refine rq (Qt.ldBA (us:=[_,_,_,_,_,_,_,_,_,_,_]) 0 ty89 rfl rfl rfl rfl) ?_
                     obtain ⟨x49,hx49,H⟩:=bindE H
                     refine rq (Qt.call (vs:=[.agg #[.int .i64 a0_p.id,.int .i64 a0_p.players,.int .i64 a0_p.delay,.int .i64 a0_p.turn,.int .i64 a0_p.said,.slice p0 a0_p.mine.length c0,.slice p1 a0_p.inputs.length c1,.slice p2 a0_p.has.length c2,.slice p3 a0_p.acked.length c3,.slice p4 a0_p.hashes.length c4,.bool a0_p.split]]) ent103 rfl fun w s=>peer_inputs_walk a0_p w ((Rd.base h0) w s) ((Rd.base h1) w s) ((Rd.base h2) w s) ((Rd.base h3) w s) ((Rd.base h4) w s) hx49) (rp (Pu.pickT rfl rfl) ?_)
                     obtain rfl:=sj H
                     exact hJ46 _ _ ⟨rfl,trivial⟩ (fun w s=>s)
                    ·have H:=ifB hc45 H
                     refine ro (ro (rp (Pu.pickF rfl rfl) ?_))
                     obtain rfl:=sj H
                     exact hJ46 _ _ ⟨rfl,trivial⟩ (fun w s=>s)
                  ·intro z50 H hJ43
                   refine RS.split 110 rfl (fun hc42=>?_) (fun hc42=>?_)
                   ·have H:=ifT hc42 H
                    refine rp (Pu.fieldAddr fd89_6 rfl) (rq (Qt.ldB 0 ty86 rfl rfl rfl) ?_)
                    obtain ⟨x51,hx51,H⟩:=bindE H
                    refine rq (Qt.call (vs:=[.slice p1 a0_p.inputs.length c1]) ent102 rfl fun w s=>turns_Rising_walk a0_p.inputs w ((Rd.base h1) w s) hx51) (rp (Pu.pickT rfl rfl) ?_)
                    obtain rfl:=sj H
                    exact hJ43 _ _ ⟨rfl,rfl,trivial⟩ (fun w s=>s)
                   ·have H:=ifB hc42 H
                    refine ro (ro (ro (rp (Pu.pickF rfl rfl) ?_)))
                    obtain rfl:=sj H
                    exact hJ43 _ _ ⟨rfl,rfl,trivial⟩ (fun w s=>s)
                ·intro hJ39
                 refine RD.splitP 100 rfl (fun hc38=>?_) (fun hc38=>?_)
                 ·refine dn rfl (dn rfl (dn rfl (dn rfl (dn rfl (dn rfl (dp rfl (Pu.pickT rfl rfl) ?_))))))
                  exact hJ39 _ ⟨dOrT hc38,rfl,trivial⟩
                 ·refine dp rfl (Pu.fieldAddr fd89_9 rfl) (dq rfl (Qt.ldB 0 ty87 rfl rfl rfl) (dp rfl (Pu.lenSl sl87 rfl) (dp rfl (Pu.fieldAddr fd89_3 rfl) (dq rfl (Qt.ldB 0 ty3 rfl rfl rfl) (dp rfl (Pu.bin rfl rfl rfl) (dp rfl (Pu.pickF rfl rfl) ?_))))))
                  exact hJ39 _ ⟨dOrF hc38,rfl,trivial⟩
               ·intro hJ37
                refine RD.split 94 rfl (fun hc36=>?_) (fun hc36=>?_)
                ·refine dn rfl (dn rfl (dn rfl (dn rfl (dp rfl (Pu.pickT rfl rfl) ?_))))
                 exact hJ37 _ ⟨dOrT hc36,rfl,trivial⟩
                ·refine dp rfl (Pu.fieldAddr fd89_9 rfl) (dq rfl (Qt.ldB 0 ty87 rfl rfl rfl) (dp rfl (Pu.lenSl sl87 rfl) (dp rfl (Pu.bin rfl rfl rfl) (dp rfl (Pu.pickF rfl rfl) ?_))))
                 exact hJ37 _ ⟨dOrF (bne_of hc36),rfl,trivial⟩
              ·intro z52 H hJ34
               refine RD.splitP 86 rfl (fun hc33=>?_) (fun hc33=>?_)
               ·have H:=ifT hc33 H
                refine dn rfl (dn rfl (dn rfl (dn rfl (dn rfl (dn rfl (dp rfl (Pu.pickT rfl rfl) ?_))))))
                obtain rfl:=sj H
                exact hJ34 _ ⟨rfl,rfl,trivial⟩
               ·have H:=ifF hc33 H
                refine dp rfl (Pu.fieldAddr fd89_8 rfl) (dq rfl (Qt.ldB 0 ty35 rfl rfl rfl) ?_)
                obtain ⟨x53,hx53,H⟩:=bindE H
                refine dq rfl (Qt.call (vs:=[.slice p3 a0_p.acked.length c3]) ent100 rfl fun w s=>slices_MaxI_walk a0_p.acked w ((Rd.base h3) w s) hx53) (dp rfl (Pu.fieldAddr fd89_4 rfl) (dq rfl (Qt.ldB 0 ty3 rfl rfl rfl) (dp rfl (Pu.bin rfl rfl rfl) (dp rfl (Pu.pickF rfl rfl) ?_))))
                obtain rfl:=sj H
                exact hJ34 _ ⟨rfl,rfl,trivial⟩
            ·intro z54 H hJ28
             refine RS.split 72 rfl (fun hc27=>?_) (fun hc27=>?_)
             ·have H:=ifT hc27 H
              refine ro (ro (ro (ro (ro (rp (Pu.pickT rfl rfl) ?_)))))
              obtain rfl:=sj H
              exact hJ28 _ _ ⟨rfl,rfl,trivial⟩ (fun w s=>s)
             ·have H:=ifB hc27 H
              refine rq (Qt.ldBA (us:=[_,_,_,_,_,_,_,_,_,_,_]) 0 ty89 rfl rfl rfl rfl) (rp (Pu.fieldAddr fd89_8 rfl) (rq (Qt.ldB 0 ty35 rfl rfl rfl) ?_))
              obtain ⟨x55,hx55,H⟩:=bindE H
              refine rq (Qt.call (vs:=[.agg #[.int .i64 a0_p.id,.int .i64 a0_p.players,.int .i64 a0_p.delay,.int .i64 a0_p.turn,.int .i64 a0_p.said,.slice p0 a0_p.mine.length c0,.slice p1 a0_p.inputs.length c1,.slice p2 a0_p.has.length c2,.slice p3 a0_p.acked.length c3,.slice p4 a0_p.hashes.length c4,.bool a0_p.split],.slice p3 a0_p.acked.length c3]) ent98 rfl fun w s=>peer_counts_walk a0_p a0_p.acked w ((Rd.base h0) w s) ((Rd.base h1) w s) ((Rd.base h2) w s) ((Rd.base h3) w s) ((Rd.base h4) w s) ((Rd.base h3) w s) hx55) (rp (Pu.not rfl) (rp (Pu.pickF rfl rfl) ?_))
              obtain rfl:=sj H
              exact hJ28 _ _ ⟨rfl,rfl,trivial⟩ (fun w s=>s)
           ·intro z56 H hJ25
            refine RS.splitP 65 rfl (fun hc24=>?_) (fun hc24=>?_)
            ·have H:=ifT hc24 H
             refine ro (ro (ro (ro (ro (rp (Pu.pickT rfl rfl) ?_)))))
             obtain rfl:=sj H
             exact hJ25 _ _ ⟨rfl,rfl,trivial⟩ (fun w s=>s)
            ·have H:=ifF hc24 H
             refine rq (Qt.ldBA (us:=[_,_,_,_,_,_,_,_,_,_,_]) 0 ty89 rfl rfl rfl rfl) (rp (Pu.fieldAddr fd89_7 rfl) (rq (Qt.ldB 0 ty35 rfl rfl rfl) ?_))
             obtain ⟨x57,hx57,H⟩:=bindE H
             refine rq (Qt.call (vs:=[.agg #[.int .i64 a0_p.id,.int .i64 a0_p.players,.int .i64 a0_p.delay,.int .i64 a0_p.turn,.int .i64 a0_p.said,.slice p0 a0_p.mine.length c0,.slice p1 a0_p.inputs.length c1,.slice p2 a0_p.has.length c2,.slice p3 a0_p.acked.length c3,.slice p4 a0_p.hashes.length c4,.bool a0_p.split],.slice p2 a0_p.has.length c2]) ent98 rfl fun w s=>peer_counts_walk a0_p a0_p.has w ((Rd.base h0) w s) ((Rd.base h1) w s) ((Rd.base h2) w s) ((Rd.base h3) w s) ((Rd.base h4) w s) ((Rd.base h2) w s) hx57) (rp (Pu.not rfl) (rp (Pu.pickF rfl rfl) ?_))
             obtain rfl:=sj H
             exact hJ25 _ _ ⟨rfl,rfl,trivial⟩ (fun w s=>s)
          ·intro hJ23
           refine RS.splitP 60 rfl (fun hc22=>?_) (fun hc22=>?_)
           ·refine ro (ro (ro (rp (Pu.pickT rfl rfl) ?_)))
            exact hJ23 _ _ ⟨dOrT hc22,rfl,trivial⟩ (fun w s=>s)
           ·refine rp (Pu.fieldAddr fd89_4 rfl) (rq (Qt.ldB 0 ty3 rfl rfl rfl) (rp (Pu.bin rfl rfl rfl) (rp (Pu.pickF rfl rfl) ?_)))
            exact hJ23 _ _ ⟨dOrF hc22,rfl,trivial⟩ (fun w s=>s)
         ·intro hJ19
          refine RS.splitP 49 rfl (fun hc18=>?_) (fun hc18=>?_)
          ·refine ro (ro (ro (ro (ro (ro (ro (ro (ro (rp (Pu.pickT rfl rfl) ?_)))))))))
           exact hJ19 _ _ ⟨dOrT hc18,rfl,trivial⟩ (fun w s=>s)
          ·refine rp (Pu.fieldAddr fd89_4 rfl) (rq (Qt.ldB 0 ty3 rfl rfl rfl) (rp (Pu.fieldAddr fd89_3 rfl) (rq (Qt.ldB 0 ty3 rfl rfl rfl) (rp (Pu.fieldAddr fd89_2 rfl) (rq (Qt.ldB 0 ty3 rfl rfl rfl) (rp (Pu.addS rfl rfl (g20 hc18)) (rp (Pu.subS rfl rfl (g21 hc18)) (rp (Pu.bin rfl rfl rfl) (rp (Pu.pickF rfl rfl) ?_)))))))))
           exact hJ19 _ _ ⟨dOrF hc18,rfl,trivial⟩ (fun w s=>s)
       ·intro hJ15
        refine RS.splitP 38 rfl (fun hc14=>?_) (fun hc14=>?_)
        ·refine ro (ro (ro (rp (Pu.pickT rfl rfl) ?_)))
         exact hJ15 _ _ ⟨dOrT hc14,rfl,trivial⟩ (fun w s=>s)
        ·refine rp (Pu.fieldAddr fd89_3 rfl) (rq (Qt.ldB 0 ty3 rfl rfl rfl) (rp (Pu.bin rfl rfl rfl) (rp (Pu.pickF rfl rfl) ?_)))
         exact hJ15 _ _ ⟨dOrF hc14,rfl,trivial⟩ (fun w s=>s)
      ·intro hJ13
       refine RS.splitP 33 rfl (fun hc12=>?_) (fun hc12=>?_)
       ·refine ro (ro (ro (rp (Pu.pickT rfl rfl) ?_)))
        exact hJ13 _ _ ⟨dOrT hc12,rfl,trivial⟩ (fun w s=>s)
       ·refine rp (Pu.fieldAddr fd89_3 rfl) (rq (Qt.ldB 0 ty3 rfl rfl rfl) (rp (Pu.bin rfl rfl rfl) (rp (Pu.pickF rfl rfl) ?_)))
        exact hJ13 _ _ ⟨dOrF hc12,rfl,trivial⟩ (fun w s=>s)
     ·intro hJ11
      refine RS.splitP 28 rfl (fun hc10=>?_) (fun hc10=>?_)
      ·refine ro (ro (ro (rp (Pu.pickT rfl rfl) ?_)))
       exact hJ11 _ _ ⟨dOrT hc10,rfl,trivial⟩ (fun w s=>s)
      ·refine rp (Pu.fieldAddr fd89_2 rfl) (rq (Qt.ldB 0 ty3 rfl rfl rfl) (rp (Pu.bin rfl rfl rfl) (rp (Pu.pickF rfl rfl) ?_)))
       exact hJ11 _ _ ⟨dOrF hc10,rfl,trivial⟩ (fun w s=>s)
    ·intro hJ9
     refine RS.splitP 23 rfl (fun hc8=>?_) (fun hc8=>?_)
     ·refine ro (ro (ro (rp (Pu.pickT rfl rfl) ?_)))
      exact hJ9 _ _ ⟨dOrT hc8,rfl,trivial⟩ (fun w s=>s)
     ·refine rp (Pu.fieldAddr fd89_2 rfl) (rq (Qt.ldB 0 ty3 rfl rfl rfl) (rp (Pu.bin rfl rfl rfl) (rp (Pu.pickF rfl rfl) ?_)))
      exact hJ9 _ _ ⟨dOrF hc8,rfl,trivial⟩ (fun w s=>s)
   ·intro hJ7
    refine RS.splitP 16 rfl (fun hc6=>?_) (fun hc6=>?_)
    ·refine ro (ro (ro (ro (ro (rp (Pu.pickT rfl rfl) ?_)))))
     exact hJ7 _ _ ⟨dOrT hc6,rfl,trivial⟩ (fun w s=>s)
    ·refine rp (Pu.fieldAddr fd89_0 rfl) (rq (Qt.ldB 0 ty3 rfl rfl rfl) (rp (Pu.fieldAddr fd89_1 rfl) (rq (Qt.ldB 0 ty3 rfl rfl rfl) (rp (Pu.bin rfl rfl rfl) (rp (Pu.pickF rfl rfl) ?_)))))
     exact hJ7 _ _ ⟨dOrF hc6,rfl,trivial⟩ (fun w s=>s)
  ·intro hJ5
   refine RS.splitP 11 rfl (fun hc4=>?_) (fun hc4=>?_)
   ·refine ro (ro (ro (rp (Pu.pickT rfl rfl) ?_)))
    exact hJ5 _ _ ⟨dOrT hc4,rfl,trivial⟩ (fun w s=>s)
   ·refine rp (Pu.fieldAddr fd89_0 rfl) (rq (Qt.ldB 0 ty3 rfl rfl rfl) (rp (Pu.bin rfl rfl rfl) (rp (Pu.pickF rfl rfl) ?_)))
    exact hJ5 _ _ ⟨dOrF hc4,rfl,trivial⟩ (fun w s=>s)
 ·intro hJ3
  refine RS.splitP 6 rfl (fun hc2=>?_) (fun hc2=>?_)
  ·refine ro (ro (ro (rp (Pu.pickT rfl rfl) ?_)))
   exact hJ3 _ _ ⟨dOrT hc2,rfl,trivial⟩ (fun w s=>s)
  ·refine rp (Pu.fieldAddr fd89_1 rfl) (rq (Qt.ldB 0 ty3 rfl rfl rfl) (rp (Pu.bin rfl rfl rfl) (rp (Pu.pickF rfl rfl) ?_)))
   exact hJ3 _ _ ⟨dOrF hc2,rfl,trivial⟩ (fun w s=>s)
theorem peer_Own_walk (a0_p:Per) (w:World) {v0 v1 v2 v3 v4:Value} (h0:R (hpOf w) a0_p.mine [v0]) (h1:R (hpOf w) a0_p.inputs [v1]) (h2:R (hpOf w) a0_p.has [v2]) (h3:R (hpOf w) a0_p.acked [v3]) (h4:R (hpOf w) a0_p.hashes [v4]) {r:Per} (H:peer_Own a0_p = some r):Calls Tryz.prog 155 #[.agg #[.int .i64 a0_p.id,.int .i64 a0_p.players,.int .i64 a0_p.delay,.int .i64 a0_p.turn,.int .i64 a0_p.said,v0,v1,v2,v3,v4,.bool a0_p.split]] w fun e w'=>∃ g:(Option Nat × Nat) × (Option Nat × Nat) × (Option Nat × Nat) × (Option Nat × Nat) × (Option Nat × Nat),e = .returned (.agg #[.int .i64 r.id,.int .i64 r.players,.int .i64 r.delay,.int .i64 r.turn,.int .i64 r.said,rowV g.1 r.mine.length,rowV g.2.1 r.inputs.length,rowV g.2.2.1 r.has.length,rowV g.2.2.2.1 r.acked.length,rowV g.2.2.2.2 r.hashes.length,.bool r.split])∧Sat w [drow 210 (rowV g.1 r.mine.length) r.mine,drow 210 (rowV g.2.1 r.inputs.length) r.inputs,row nilH 3 (rowV g.2.2.1 r.has.length) r.has,row nilH 3 (rowV g.2.2.2.1 r.acked.length) r.acked,row nilH 112 (rowV g.2.2.2.2 r.hashes.length) r.hashes] w':=by
 have hm0:=R_max h0
 obtain ⟨p0,c0,rfl⟩:=R_form h0
 have hm1:=R_max h1
 obtain ⟨p1,c1,rfl⟩:=R_form h1
 have hm2:=R_max h2
 obtain ⟨p2,c2,rfl⟩:=R_form h2
 have hm3:=R_max h3
 obtain ⟨p3,c3,rfl⟩:=R_form h3
 have hm4:=R_max h4
 obtain ⟨p4,c4,rfl⟩:=R_form h4
 unfold peer_Own at H
 refine T.enter (args:=[_]) (S:=Sat w []) Tryz.func155 rfl rfl (Sat.start w) ?_
 refine T.seq fun K1 hK1=>T.region (RS.solid (Sd.box (cs:=[_,_,_,_,_,_,_,_,_,_,_]) rfl rfl) rfl rfl fun b1=>RS.solid (Sd.alloc zr89 rfl) rfl rfl fun b2=>RS.nil (hK1 _ _ ?_))
 refine T.seq fun K2 hK2=>?_
 refine T.drawn (fun _=>True) [(0,.pu),(1,.rd),(3,.pu),(4,.rd),(2,.so),(6,.pu),(5,.so),(7,.br),(8,.pu),(9,.br)] mixed (ClE.sat _ _) (by kernel_rfl) ?_
 refine dp rfl (Pu.fieldAddr fd89_5 rfl) (dq rfl (Qt.ldB 0 ty86 rfl rfl rfl) (dp rfl (Pu.fieldAddr fd89_6 rfl) (dq rfl (Qt.ldB 0 ty86 rfl rfl rfl) ?_)))
 obtain ⟨x3,hx3,H⟩:=bindE H
 refine RD.solid rfl (.inl rfl) rfl rfl (Sd.callN (vs:=[.slice p0 a0_p.mine.length c0]) ent223 rfl (fun w s=>turns_OwnAll_walk a0_p.mine w ((Rd.base h0) w s) hx3)) (fun _=>ClE.sat _ _) (fun _ _ _=>trivial) (fun _ _ _ s=>s.drop1) fun q4=>?_
 refine dp rfl (Pu.fieldAddr fd89_5 rfl) ?_
 obtain ⟨x5,hx5,H⟩:=bindE H
 refine RD.solid rfl (.inl rfl) rfl rfl (Sd.callN (vs:=[.slice p1 a0_p.inputs.length c1]) ent223 rfl (fun w s=>turns_OwnAll_walk a0_p.inputs w ((Rd.base h1) w s) hx5)) (fun _=>ClE.sat _ _) (fun _ _ _=>trivial) (fun _ _ _ s=>s.drop1) fun q6=>?_
 refine RD.solid rfl (.inr rfl) rfl rfl (Sd.stB (cs':=[_,_,_,_,_,_,_,_,_,_,_]) 0 ty86 rfl rfl rfl rfl rfl rfl rfl rfl) (fun _=>ClE.sat _ _) (fun _ _ _=>trivial) (fun h=>nomatch h) fun _=>?_
 refine dp rfl (Pu.fieldAddr fd89_6 rfl) (RD.solid rfl (.inr rfl) rfl rfl (Sd.stB (cs':=[_,_,_,_,_,_,_,_,_,_,_]) 0 ty86 rfl rfl rfl rfl rfl rfl rfl rfl) (fun _=>ClE.sat _ _) (fun _ _ _=>trivial) (fun h=>nomatch h) fun _=>?_)
 refine RD.nil (hK2 _ _ (cq [(1,_),(2,_)] ?_))
 refine T.seq fun K3 hK3=>?_
 refine T.drawn (fun _=>True) [(0,.pu),(1,.rd),(3,.pu),(4,.rd),(6,.pu),(7,.rd),(2,.so),(9,.pu),(5,.so),(8,.so),(10,.br),(11,.pu),(12,.br),(13,.pu),(14,.br)] mixed (ClE.sat _ _) (by kernel_rfl) ?_
 refine dp rfl (Pu.fieldAddr fd89_7 rfl) (dq rfl (Qt.ldB 0 ty35 rfl rfl rfl) (dp rfl (Pu.fieldAddr fd89_8 rfl) (dq rfl (Qt.ldB 0 ty35 rfl rfl rfl) (dp rfl (Pu.fieldAddr fd89_9 rfl) (dq rfl (Qt.ldB 0 ty87 rfl rfl rfl) ?_)))))
 obtain ⟨x7,hx7,H⟩:=bindE H
 refine RD.solid rfl (.inl rfl) rfl rfl (Sd.callN (vs:=[.slice p2 a0_p.has.length c2]) ent222 rfl (fun w s=>slices_Clone_Int_walk a0_p.has w ((Rd.base h2) w s) hx7)) (fun _=>ClE.sat _ _) (fun _ _ _=>trivial) (fun _ _ _ s=>s.drop1) fun q8=>?_
 refine dp rfl (Pu.fieldAddr fd89_7 rfl) ?_
 obtain ⟨x9,hx9,H⟩:=bindE H
 refine RD.solid rfl (.inl rfl) rfl rfl (Sd.callN (vs:=[.slice p3 a0_p.acked.length c3]) ent222 rfl (fun w s=>slices_Clone_Int_walk a0_p.acked w ((Rd.base h3) w s) hx9)) (fun _=>ClE.sat _ _) (fun _ _ _=>trivial) (fun _ _ _ s=>s.drop1) fun q10=>?_
 obtain ⟨x11,hx11,H⟩:=bindE H
 refine RD.solid rfl (.inl rfl) rfl rfl (Sd.callN (vs:=[.slice p4 a0_p.hashes.length c4]) ent224 rfl (fun w s=>slices_Clone_U64_walk a0_p.hashes w ((Rd.base h4) w s) hx11)) (fun _=>ClE.sat _ _) (fun _ _ _=>trivial) (fun _ _ _ s=>s.drop1) fun q12=>?_
 refine RD.solid rfl (.inr rfl) rfl rfl (Sd.stB (cs':=[_,_,_,_,_,_,_,_,_,_,_]) 0 ty35 rfl rfl rfl rfl rfl rfl rfl rfl) (fun _=>ClE.sat _ _) (fun _ _ _=>trivial) (fun h=>nomatch h) fun _=>?_
 refine dp rfl (Pu.fieldAddr fd89_8 rfl) (RD.solid rfl (.inr rfl) rfl rfl (Sd.stB (cs':=[_,_,_,_,_,_,_,_,_,_,_]) 0 ty35 rfl rfl rfl rfl rfl rfl rfl rfl) (fun _=>ClE.sat _ _) (fun _ _ _=>trivial) (fun h=>nomatch h) fun _=>?_)
 refine dp rfl (Pu.fieldAddr fd89_9 rfl) (RD.solid rfl (.inr rfl) rfl rfl (Sd.stB (cs':=[_,_,_,_,_,_,_,_,_,_,_]) 0 ty87 rfl rfl rfl rfl rfl rfl rfl rfl) (fun _=>ClE.sat _ _) (fun _ _ _=>trivial) (fun h=>nomatch h) fun _=>?_)
 refine RD.nil (hK3 _ _ (cq [(1,_),(2,_)] ?_))
 refine T.seq fun K4 hK4=>?_
 try dsimp only [List.set,List.cons_append,List.nil_append]
 refine T.region (rq (Qt.ldBA (us:=[_,_,_,_,_,_,_,_,_,_,_]) 0 ty89 rfl rfl rfl rfl) (RS.solid (Sd.stB (cs':=[_,_,_,_,_,_,_,_,_,_,_]) 1 ty89 rfl rfl rfl rfl rfl rfl rfl rfl) rfl rfl fun _=>RS.nil (hK4 _ _ ?_)))
 obtain rfl:=sj H
 try dsimp only [List.set,List.cons_append,List.nil_append]
 refine T.rt (Cont.retC 1 rfl ty89 rfl rfl rfl fun w' s=>?_)
 exact ⟨⟨q4,q6,q8,q10,q12⟩,rfl,s.pick [2,3,4,5,6] (by decide) rfl⟩
theorem peer_New_walk (a0_id:Int) (a1_players:Int) (a2_delay:Int) (w:World) {r:Per × Int} (H:peer_New a0_id a1_players a2_delay = some r):Calls Tryz.prog 29 #[.int .i64 a0_id,.int .i64 a1_players,.int .i64 a2_delay] w fun e w'=>∃ g:(Option Nat × Nat) × (Option Nat × Nat) × (Option Nat × Nat) × (Option Nat × Nat) × (Option Nat × Nat),e = .returned (.tuple #[.agg #[.int .i64 r.1.id,.int .i64 r.1.players,.int .i64 r.1.delay,.int .i64 r.1.turn,.int .i64 r.1.said,rowV g.1 r.1.mine.length,rowV g.2.1 r.1.inputs.length,rowV g.2.2.1 r.1.has.length,rowV g.2.2.2.1 r.1.acked.length,rowV g.2.2.2.2 r.1.hashes.length,.bool r.1.split],.int .i64 r.2])∧Sat w [drow 210 (rowV g.1 r.1.mine.length) r.1.mine,drow 210 (rowV g.2.1 r.1.inputs.length) r.1.inputs,row nilH 3 (rowV g.2.2.1 r.1.has.length) r.1.has,row nilH 3 (rowV g.2.2.2.1 r.1.acked.length) r.1.acked,row nilH 112 (rowV g.2.2.2.2 r.1.hashes.length) r.1.hashes] w':=by
 unfold peer_New at H
 refine T.enter (args:=[_,_,_]) (S:=Sat w []) Tryz.func29 rfl rfl (Sat.start w) ?_
 refine T.seq fun K1 hK1=>T.region (RS.solid (Sd.alloc zr89 rfl) rfl rfl fun b1=>rA rfl (RS.nil (hK1 _ _ ?_)))
 refine T.seq fun K2 hK2=>T.region (rM rfl (rM rfl (rM rfl (rM rfl (rp (Pu.subW rfl rfl) (rp (Pu.build (cells:=[_,_,_,_,_,_,_,_,_,_,_]) st89 rfl rfl) (RS.solid (Sd.alloc zr89 rfl) rfl rfl fun b2=>RS.solid (Sd.stB (cs':=[_,_,_,_,_,_,_,_,_,_,_]) 1 ty89 rfl rfl rfl rfl rfl rfl rfl rfl) rfl rfl fun _=>RS.nil (hK2 _ _ (cq [(1,_),(2,_),(6,_),(8,_)] ?_)))))))))
 refine T.seq fun K3 hK3=>T.seq fun K4 hK4=>T.region (rM rfl (rp (Pu.bin rfl rfl rfl) (rM rfl ?_)))
 refine RS.joinV 3 20 (.bool (decide ((1 ≤ a1_players)∧(a1_players ≤ 8)))) [(1,_),(2,_),(6,_),(8,_)] ⟨rfl,rfl,rfl,rfl,trivial⟩ ?_ ?_
 ·refine RS.nil (hK4 _ _ ?_)
  refine T.condP rfl (fun hc5=>?_) (fun hc5=>?_)
  ·have H:=ifT hc5 H
   refine T.region (rM rfl (rp (Pu.subW rfl rfl) (RS.solid (Sd.litS (cs:=[_]) sl35 zr3 rfl rfl rfl rfl rfl) rfl rfl fun b6=>?_)))
   refine RS.weakS (fun w s=>s.litRow (α:=Int) (n:=1) 2 [(w64 (a2_delay - 1))] rfl (by decide) rfl ⟨[_],_,rfl,rfl,rfl⟩) ?_
   refine rM rfl ?_
   obtain ⟨x7,hx7,H⟩:=bindE H
   refine RS.solid (Sd.callN (vs:=[rowV (some b6,1) 1,.int .i64 a1_players]) ent57 rfl (fun w s=>slices_Repeat_Int_walk [(w64 (a2_delay - 1))] a1_players w ((Rd.ofRowN 2 rfl) w s) hx7)) rfl rfl fun q8=>rM rfl (rp (Pu.subW rfl rfl) (RS.solid (Sd.litS (cs:=[_]) sl35 zr3 rfl rfl rfl rfl rfl) rfl rfl fun b9=>?_))
   refine RS.weakS (fun w s=>s.litRow (α:=Int) (n:=1) 4 [(w64 (a2_delay - 1))] rfl (by decide) rfl ⟨[_],_,rfl,rfl,rfl⟩) ?_
   refine rM rfl ?_
   obtain ⟨x10,hx10,H⟩:=bindE H
   refine RS.solid (Sd.callN (vs:=[rowV (some b9,1) 1,.int .i64 a1_players]) ent57 rfl (fun w s=>slices_Repeat_Int_walk [(w64 (a2_delay - 1))] a1_players w ((Rd.ofRowN 4 rfl) w s) hx10)) rfl rfl fun q11=>rp (Pu.fieldAddr fd89_7 rfl) (RS.solid (Sd.stB (cs':=[_,_,_,_,_,_,_,_,_,_,_]) 1 ty35 rfl rfl rfl rfl rfl rfl rfl rfl) rfl rfl fun _=>rp (Pu.fieldAddr fd89_8 rfl) (RS.solid (Sd.stB (cs':=[_,_,_,_,_,_,_,_,_,_,_]) 1 ty35 rfl rfl rfl rfl rfl rfl rfl rfl) rfl rfl fun _=>RS.nil (hK3 _ _ (cq [(6,_),(8,_)] ?_))))
   refine T.seq fun K5 hK5=>T.seq fun K6 hK6=>T.region (rq (Qt.ldBA (us:=[_,_,_,_,_,_,_,_,_,_,_]) 1 ty89 rfl rfl rfl rfl) ?_)
   obtain ⟨x12,hx12,H⟩:=bindE H
   refine rq (Qt.call (vs:=[.agg #[.int .i64 a0_id,.int .i64 a1_players,.int .i64 a2_delay,.int .i64 0,.int .i64 (w64 (a2_delay - 1)),.slice none 0 0,.slice none 0 0,rowV q8 x7.length,rowV q11 x10.length,.slice none 0 0,.bool false]]) ent58 rfl fun w s=>peer_May_walk (⟨a0_id,a1_players,a2_delay,0,(w64 (a2_delay - 1)),[],[],x7,x10,[],false⟩:Per) w ((Rd.nil (α:=Inp)) w s) ((Rd.nil (α:=Inp)) w s) ((Rd.ofRowN 3 rfl) w s) ((Rd.ofRowN 5 rfl) w s) ((Rd.nil (α:=UInt64)) w s) hx12) (rp (Pu.not rfl) (RS.nil (hK6 _ _ ?_)))
   refine T.cond rfl (fun hc13=>?_) (fun hc13=>?_)
   ·have H:=ifT hc13 H
    refine cq [(6,_)] ?_
    refine T.seq fun K7 hK7=>T.region (rp (Pu.build (cells:=[_,_,_,_,_,_,_,_,_,_,_]) st89 rfl rfl) (RS.solid (Sd.stB (cs':=[_,_,_,_,_,_,_,_,_,_,_]) 0 ty89 rfl rfl rfl rfl rfl rfl rfl rfl) rfl rfl fun _=>rA rfl (RS.nil (hK7 _ _ ?_))))
    obtain rfl:=sj H
    refine T.rt (Cont.retCT 0 rfl ty89 rfl rfl rfl rfl fun w' s=>?_)
    exact ⟨⟨(none,0),(none,0),(none,0),(none,0),(none,0)⟩,rfl,(((((s.nilRowG (α:=Inp) 210).nilRowG (α:=Inp) 210).nilRow (α:=Int) 3).nilRow (α:=Int) 3).nilRow (α:=UInt64) 112).pick [6,7,8,9,10] (by decide) rfl⟩
   ·have H:=ifB hc13 H
    refine T.skip (hK5 _ _ (cq [(6,_),(8,_)] ?_))
    refine T.seq fun K8 hK8=>T.region (rq (Qt.ldBA (us:=[_,_,_,_,_,_,_,_,_,_,_]) 1 ty89 rfl rfl rfl rfl) (RS.solid (Sd.stB (cs':=[_,_,_,_,_,_,_,_,_,_,_]) 0 ty89 rfl rfl rfl rfl rfl rfl rfl rfl) rfl rfl fun _=>rA rfl (RS.nil (hK8 _ _ ?_))))
    obtain rfl:=sj H
    refine T.rt (Cont.retCT 0 rfl ty89 rfl rfl rfl rfl fun w' s=>?_)
    exact ⟨⟨(none,0),(none,0),q8,q11,(none,0)⟩,rfl,(((s.nilRowG (α:=Inp) 210).nilRowG (α:=Inp) 210).nilRow (α:=UInt64) 112).pick [6,7,3,5,8] (by decide) rfl⟩
  ·have H:=ifF hc5 H
   refine T.skip (hK3 _ _ (cq [(6,_),(8,_)] ?_))
   refine T.seq fun K9 hK9=>T.seq fun K10 hK10=>T.region (rq (Qt.ldBA (us:=[_,_,_,_,_,_,_,_,_,_,_]) 1 ty89 rfl rfl rfl rfl) ?_)
   obtain ⟨x14,hx14,H⟩:=bindE H
   refine rq (Qt.call (vs:=[.agg #[.int .i64 a0_id,.int .i64 a1_players,.int .i64 a2_delay,.int .i64 0,.int .i64 (w64 (a2_delay - 1)),.slice none 0 0,.slice none 0 0,.slice none 0 0,.slice none 0 0,.slice none 0 0,.bool false]]) ent58 rfl fun w s=>peer_May_walk (⟨a0_id,a1_players,a2_delay,0,(w64 (a2_delay - 1)),[],[],[],[],[],false⟩:Per) w ((Rd.nil (α:=Inp)) w s) ((Rd.nil (α:=Inp)) w s) ((Rd.nil (α:=Int)) w s) ((Rd.nil (α:=Int)) w s) ((Rd.nil (α:=UInt64)) w s) hx14) (rp (Pu.not rfl) (RS.nil (hK10 _ _ ?_)))
   refine T.cond rfl (fun hc15=>?_) (fun hc15=>?_)
   ·have H:=ifT hc15 H
    refine cq [(6,_)] ?_
    refine T.seq fun K11 hK11=>T.region (rp (Pu.build (cells:=[_,_,_,_,_,_,_,_,_,_,_]) st89 rfl rfl) (RS.solid (Sd.stB (cs':=[_,_,_,_,_,_,_,_,_,_,_]) 0 ty89 rfl rfl rfl rfl rfl rfl rfl rfl) rfl rfl fun _=>rA rfl (RS.nil (hK11 _ _ ?_))))
    obtain rfl:=sj H
    refine T.rt (Cont.retCT 0 rfl ty89 rfl rfl rfl rfl fun w' s=>?_)
    exact ⟨⟨(none,0),(none,0),(none,0),(none,0),(none,0)⟩,rfl,(((((s.nilRowG (α:=Inp) 210).nilRowG (α:=Inp) 210).nilRow (α:=Int) 3).nilRow (α:=Int) 3).nilRow (α:=UInt64) 112).pick [2,3,4,5,6] (by decide) rfl⟩
   ·have H:=ifB hc15 H
    refine T.skip (hK9 _ _ (cq [(6,_),(8,_)] ?_))
    refine T.seq fun K12 hK12=>T.region (rq (Qt.ldBA (us:=[_,_,_,_,_,_,_,_,_,_,_]) 1 ty89 rfl rfl rfl rfl) (RS.solid (Sd.stB (cs':=[_,_,_,_,_,_,_,_,_,_,_]) 0 ty89 rfl rfl rfl rfl rfl rfl rfl rfl) rfl rfl fun _=>rA rfl (RS.nil (hK12 _ _ ?_))))
    obtain rfl:=sj H
    refine T.rt (Cont.retCT 0 rfl ty89 rfl rfl rfl rfl fun w' s=>?_)
    exact ⟨⟨(none,0),(none,0),(none,0),(none,0),(none,0)⟩,rfl,(((((s.nilRowG (α:=Inp) 210).nilRowG (α:=Inp) 210).nilRow (α:=Int) 3).nilRow (α:=Int) 3).nilRow (α:=UInt64) 112).pick [2,3,4,5,6] (by decide) rfl⟩
 ·intro hJ4
  refine RS.splitP 17 rfl (fun hc3=>?_) (fun hc3=>?_)
  ·refine rM rfl (rp (Pu.bin rfl rfl rfl) (rp (Pu.pickT rfl rfl) ?_))
   exact hJ4 _ _ ⟨dAndT hc3,rfl,rfl,rfl,rfl,trivial⟩ (fun w s=>s)
  ·refine ro (ro (rp (Pu.pickF rfl rfl) ?_))
   exact hJ4 _ _ ⟨dAndF hc3,rfl,rfl,rfl,rfl,trivial⟩ (fun w s=>s)
theorem peer_can_walk (a0_p:Per) (w:World) {v0 v1 v2 v3 v4:Value} (h0:R (hpOf w) a0_p.mine [v0]) (h1:R (hpOf w) a0_p.inputs [v1]) (h2:R (hpOf w) a0_p.has [v2]) (h3:R (hpOf w) a0_p.acked [v3]) (h4:R (hpOf w) a0_p.hashes [v4]) {r:Bool} (H:peer_can a0_p = some r):Calls Tryz.prog 227 #[.agg #[.int .i64 a0_p.id,.int .i64 a0_p.players,.int .i64 a0_p.delay,.int .i64 a0_p.turn,.int .i64 a0_p.said,v0,v1,v2,v3,v4,.bool a0_p.split]] w fun e w'=>e = .returned (.bool r)∧Ext w w':=by
 have hm0:=R_max h0
 obtain ⟨p0,c0,rfl⟩:=R_form h0
 have hm1:=R_max h1
 obtain ⟨p1,c1,rfl⟩:=R_form h1
 have hm2:=R_max h2
 obtain ⟨p2,c2,rfl⟩:=R_form h2
 have hm3:=R_max h3
 obtain ⟨p3,c3,rfl⟩:=R_form h3
 have hm4:=R_max h4
 obtain ⟨p4,c4,rfl⟩:=R_form h4
 unfold peer_can at H
 refine T.enter (args:=[_]) (S:=Sat w []) Tryz.func227 rfl rfl (Sat.start w) ?_
 refine T.seq fun K1 hK1=>T.region (RS.solid (Sd.box (cs:=[_,_,_,_,_,_,_,_,_,_,_]) rfl rfl) rfl rfl fun b1=>rA rfl (RS.nil (hK1 _ _ ?_)))
 refine T.seq fun K2 hK2=>?_
 refine T.drawn (fun _=>True) [(0,.pu),(1,.rd),(2,.rd),(3,.pu),(4,.rd),(5,.pu),(6,.pu),(7,.pu),(8,.rd),(9,.pu),(10,.pu),(11,.pu)] mixed (ClE.sat _ _) (by kernel_rfl) ?_
 refine dp rfl (Pu.fieldAddr fd89_7 rfl) (dq rfl (Qt.ldB 0 ty35 rfl rfl rfl) ?_)
 obtain ⟨x2,hx2,H⟩:=bindE H
 refine dq rfl (Qt.call (vs:=[.slice p2 a0_p.has.length c2]) ent99 rfl fun w s=>slices_Min_walk a0_p.has w ((Rd.base h2) w s) hx2) (dp rfl (Pu.fieldAddr fd89_3 rfl) (dq rfl (Qt.ldB 0 ty3 rfl rfl rfl) (dp rfl (Pu.bin rfl rfl rfl) (dp rfl (Pu.move rfl) ?_))))
 refine RD.joinV 4 13 (.bool (decide ((a0_p.turn ≤ x2)∧(a0_p.turn < 1099511627776)))) [(2,_)] ⟨rfl,trivial⟩ ?_ ?_
 ·refine dp rfl (Pu.assign rfl) (RD.nil (hK2 _ _ ?_))
  obtain rfl:=sj H
  refine T.rt (Cont.ret1 rfl rfl fun w' s=>?_)
  exact ⟨rfl,s.ext⟩
 ·intro hJ4
  refine RD.splitP 9 rfl (fun hc3=>?_) (fun hc3=>?_)
  ·refine dp rfl (Pu.fieldAddr fd89_3 rfl) (dq rfl (Qt.ldB 0 ty3 rfl rfl rfl) (dp rfl (Pu.bin rfl rfl rfl) (dp rfl (Pu.pickT rfl rfl) ?_)))
   exact hJ4 _ ⟨dAndT hc3,rfl,trivial⟩
  ·refine dn rfl (dn rfl (dn rfl (dp rfl (Pu.pickF rfl rfl) ?_)))
   exact hJ4 _ ⟨dAndF hc3,rfl,trivial⟩
theorem peer_Ready_walk (a0_p:Per) (w:World) {v0 v1 v2 v3 v4:Value} (h0:R (hpOf w) a0_p.mine [v0]) (h1:R (hpOf w) a0_p.inputs [v1]) (h2:R (hpOf w) a0_p.has [v2]) (h3:R (hpOf w) a0_p.acked [v3]) (h4:R (hpOf w) a0_p.hashes [v4]) {r:List Cmd × Bool × Int} (H:peer_Ready a0_p = some r):Calls Tryz.prog 160 #[.agg #[.int .i64 a0_p.id,.int .i64 a0_p.players,.int .i64 a0_p.delay,.int .i64 a0_p.turn,.int .i64 a0_p.said,v0,v1,v2,v3,v4,.bool a0_p.split]] w fun e w'=>∃ q1:(Option Nat × Nat),e = .returned (.tuple #[rowV q1 r.1.length,.bool r.2.1,.int .i64 r.2.2])∧Sat w [drow 37 (rowV q1 r.1.length) r.1] w':=by
 have hm0:=R_max h0
 obtain ⟨p0,c0,rfl⟩:=R_form h0
 have hm1:=R_max h1
 obtain ⟨p1,c1,rfl⟩:=R_form h1
 have hm2:=R_max h2
 obtain ⟨p2,c2,rfl⟩:=R_form h2
 have hm3:=R_max h3
 obtain ⟨p3,c3,rfl⟩:=R_form h3
 have hm4:=R_max h4
 obtain ⟨p4,c4,rfl⟩:=R_form h4
 unfold peer_Ready at H
 refine T.enter (args:=[_]) (S:=Sat w []) Tryz.func160 rfl rfl (Sat.start w) ?_
 refine T.seq fun K1 hK1=>T.region (RS.solid (Sd.box (cs:=[_,_,_,_,_,_,_,_,_,_,_]) rfl rfl) rfl rfl fun b1=>rA rfl (rA rfl (rA rfl (RS.nil (hK1 _ _ (cq [(1,_)] ?_))))))
 refine T.seq fun K2 hK2=>T.block (T.seq fun K3 hK3=>T.region (rq (Qt.ldBA (us:=[_,_,_,_,_,_,_,_,_,_,_]) 0 ty89 rfl rfl rfl rfl) ?_))
 obtain ⟨x2,hx2,H⟩:=bindE H
 refine rq (Qt.call (vs:=[.agg #[.int .i64 a0_p.id,.int .i64 a0_p.players,.int .i64 a0_p.delay,.int .i64 a0_p.turn,.int .i64 a0_p.said,.slice p0 a0_p.mine.length c0,.slice p1 a0_p.inputs.length c1,.slice p2 a0_p.has.length c2,.slice p3 a0_p.acked.length c3,.slice p4 a0_p.hashes.length c4,.bool a0_p.split]]) ent58 rfl fun w s=>peer_May_walk a0_p w ((Rd.base h0) w s) ((Rd.base h1) w s) ((Rd.base h2) w s) ((Rd.base h3) w s) ((Rd.base h4) w s) hx2) (rp (Pu.not rfl) (rA rfl (RS.nil (hK3 _ _ ?_))))
 refine T.cond rfl (fun hc3=>?_) (fun hc3=>?_)
 ·have H:=ifT hc3 H
  refine cq [] ?_
  refine T.seq fun K4 hK4=>T.region (rA rfl (rA rfl (rA rfl (RS.nil (hK4 _ _ ?_)))))
  obtain rfl:=sj H
  refine T.rt (Cont.ret3 rfl rfl rfl rfl fun w' s=>?_)
  exact ⟨(none,0),rfl,(s.nilRowG (α:=Cmd) 37).pick [1] (by decide) rfl⟩
 ·have H:=ifB hc3 H
  refine cq [(1,_)] ?_
  refine T.seq fun K5 hK5=>T.region (rq (Qt.ldBA (us:=[_,_,_,_,_,_,_,_,_,_,_]) 0 ty89 rfl rfl rfl rfl) ?_)
  obtain ⟨x4,hx4,H⟩:=bindE H
  refine rq (Qt.call (vs:=[.agg #[.int .i64 a0_p.id,.int .i64 a0_p.players,.int .i64 a0_p.delay,.int .i64 a0_p.turn,.int .i64 a0_p.said,.slice p0 a0_p.mine.length c0,.slice p1 a0_p.inputs.length c1,.slice p2 a0_p.has.length c2,.slice p3 a0_p.acked.length c3,.slice p4 a0_p.hashes.length c4,.bool a0_p.split]]) ent227 rfl fun w s=>peer_can_walk a0_p w ((Rd.base h0) w s) ((Rd.base h1) w s) ((Rd.base h2) w s) ((Rd.base h3) w s) ((Rd.base h4) w s) hx4) (rp (Pu.not rfl) (rA rfl (RS.nil (hK5 _ _ ?_))))
  refine T.cond rfl (fun hc5=>?_) (fun hc5=>?_)
  ·have H:=ifT hc5 H
   refine cq [] ?_
   refine T.seq fun K6 hK6=>T.region (rA rfl (rA rfl (rA rfl (RS.nil (hK6 _ _ ?_)))))
   obtain rfl:=sj H
   refine T.rt (Cont.ret3 rfl rfl rfl rfl fun w' s=>?_)
   exact ⟨(none,0),rfl,(s.nilRowG (α:=Cmd) 37).pick [1] (by decide) rfl⟩
  ·have H:=ifB hc5 H
   refine T.skip (hK2 _ _ (cq [(1,_)] ?_))
   refine T.seq fun K7 hK7=>T.region (rp (Pu.fieldAddr fd89_6 rfl) (rq (Qt.ldB 0 ty86 rfl rfl rfl) (rp (Pu.fieldAddr fd89_3 rfl) (rq (Qt.ldB 0 ty3 rfl rfl rfl) ?_))))
   obtain ⟨x6,hx6,H⟩:=bindE H
   refine RS.solid (Sd.callN (vs:=[.slice p1 a0_p.inputs.length c1,.int .i64 a0_p.turn]) ent228 rfl (fun w s=>turns_Part_walk a0_p.inputs a0_p.turn w ((Rd.base h1) w s) hx6)) rfl rfl fun ⟨q7,q8⟩=>?_
   refine rM rfl (rp (Pu.extract rfl rfl) (rp (Pu.extract rfl rfl) (rA rfl (rA rfl (RS.nil (hK7 _ _ (cq [(5,_)] ?_)))))))
   refine T.seq fun K8 hK8=>T.region (rM rfl ?_)
   obtain ⟨x9,hx9,H⟩:=bindE H
   refine RS.solid (Sd.callN (vs:=[rowV q7 x6.1.length]) ent229 rfl (fun w s=>turns_All_walk x6.1 w ((Rd.ofG 1 rfl) w s) hx9)) rfl rfl fun q10=>rA rfl (rA rfl (rA rfl (RS.nil (hK8 _ _ (cq [(2,_),(3,_),(4,_)] ?_)))))
   obtain rfl:=sj H
   refine T.rt (Cont.ret3 rfl rfl rfl rfl fun w' s=>?_)
   exact ⟨q10,rfl,s.pick [3] (by decide) rfl⟩
theorem peer_Ran_walk (a0_p:Per) (a1_h:UInt64) (w:World) {v0 v1 v2 v3 v4:Value} (h0:R (hpOf w) a0_p.mine [v0]) (h1:R (hpOf w) a0_p.inputs [v1]) (h2:R (hpOf w) a0_p.has [v2]) (h3:R (hpOf w) a0_p.acked [v3]) (h4:R (hpOf w) a0_p.hashes [v4]) {r:Per × Int} (H:peer_Ran a0_p a1_h = some r):Calls Tryz.prog 162 #[.agg #[.int .i64 a0_p.id,.int .i64 a0_p.players,.int .i64 a0_p.delay,.int .i64 a0_p.turn,.int .i64 a0_p.said,v0,v1,v2,v3,v4,.bool a0_p.split],.int .u64 a1_h.toNat] w fun e w'=>∃ g:(Option Nat × Nat) × (Option Nat × Nat) × (Option Nat × Nat) × (Option Nat × Nat) × Value,e = .returned (.tuple #[.agg #[.int .i64 r.1.id,.int .i64 r.1.players,.int .i64 r.1.delay,.int .i64 r.1.turn,.int .i64 r.1.said,rowV g.1 r.1.mine.length,rowV g.2.1 r.1.inputs.length,rowV g.2.2.1 r.1.has.length,rowV g.2.2.2.1 r.1.acked.length,g.2.2.2.2,.bool r.1.split],.int .i64 r.2])∧Sat w [drow 210 (rowV g.1 r.1.mine.length) r.1.mine,drow 210 (rowV g.2.1 r.1.inputs.length) r.1.inputs,row nilH 3 (rowV g.2.2.1 r.1.has.length) r.1.has,row nilH 3 (rowV g.2.2.2.1 r.1.acked.length) r.1.acked,osl 112 (g.2.2.2.2) r.1.hashes] w':=by
 have hm0:=R_max h0
 obtain ⟨p0,c0,rfl⟩:=R_form h0
 have hm1:=R_max h1
 obtain ⟨p1,c1,rfl⟩:=R_form h1
 have hm2:=R_max h2
 obtain ⟨p2,c2,rfl⟩:=R_form h2
 have hm3:=R_max h3
 obtain ⟨p3,c3,rfl⟩:=R_form h3
 have hm4:=R_max h4
 obtain ⟨p4,c4,rfl⟩:=R_form h4
 unfold peer_Ran at H
 refine T.enter (args:=[_,_]) (S:=Sat w []) Tryz.func162 rfl rfl (Sat.start w) ?_
 refine T.seq fun K1 hK1=>T.region (RS.solid (Sd.box (cs:=[_,_,_,_,_,_,_,_,_,_,_]) rfl rfl) rfl rfl fun b1=>RS.solid (Sd.alloc zr89 rfl) rfl rfl fun b2=>rA rfl (RS.nil (hK1 _ _ ?_)))
 refine T.seq fun K2 hK2=>T.block (T.seq fun K3 hK3=>T.region (rq (Qt.ldBA (us:=[_,_,_,_,_,_,_,_,_,_,_]) 0 ty89 rfl rfl rfl rfl) ?_))
 obtain ⟨x3,hx3,H⟩:=bindE H
 refine rq (Qt.call (vs:=[.agg #[.int .i64 a0_p.id,.int .i64 a0_p.players,.int .i64 a0_p.delay,.int .i64 a0_p.turn,.int .i64 a0_p.said,.slice p0 a0_p.mine.length c0,.slice p1 a0_p.inputs.length c1,.slice p2 a0_p.has.length c2,.slice p3 a0_p.acked.length c3,.slice p4 a0_p.hashes.length c4,.bool a0_p.split]]) ent58 rfl fun w s=>peer_May_walk a0_p w ((Rd.base h0) w s) ((Rd.base h1) w s) ((Rd.base h2) w s) ((Rd.base h3) w s) ((Rd.base h4) w s) hx3) (rp (Pu.not rfl) (rA rfl (RS.nil (hK3 _ _ ?_))))
 refine T.cond rfl (fun hc4=>?_) (fun hc4=>?_)
 ·have H:=ifT hc4 H
  refine cq [(4,_)] ?_
  refine T.seq fun K4 hK4=>T.region (rp (Pu.build (cells:=[_,_,_,_,_,_,_,_,_,_,_]) st89 rfl rfl) (RS.solid (Sd.stB (cs':=[_,_,_,_,_,_,_,_,_,_,_]) 1 ty89 rfl rfl rfl rfl rfl rfl rfl rfl) rfl rfl fun _=>rA rfl (RS.nil (hK4 _ _ ?_))))
  obtain rfl:=sj H
  refine T.rt (Cont.retCT 1 rfl ty89 rfl rfl rfl rfl fun w' s=>?_)
  exact ⟨⟨(none,0),(none,0),(none,0),(none,0),(.slice none 0 0)⟩,rfl,(((((s.nilRowG (α:=Inp) 210).nilRowG (α:=Inp) 210).nilRow (α:=Int) 3).nilRow (α:=Int) 3).nilOsl (α:=UInt64) 112).pick [2,3,4,5,6] (by decide) rfl⟩
 ·have H:=ifB hc4 H
  refine cq [(1,_),(2,_),(4,_)] ?_
  refine T.seq fun K5 hK5=>T.region (rq (Qt.ldBA (us:=[_,_,_,_,_,_,_,_,_,_,_]) 0 ty89 rfl rfl rfl rfl) ?_)
  obtain ⟨x5,hx5,H⟩:=bindE H
  refine rq (Qt.call (vs:=[.agg #[.int .i64 a0_p.id,.int .i64 a0_p.players,.int .i64 a0_p.delay,.int .i64 a0_p.turn,.int .i64 a0_p.said,.slice p0 a0_p.mine.length c0,.slice p1 a0_p.inputs.length c1,.slice p2 a0_p.has.length c2,.slice p3 a0_p.acked.length c3,.slice p4 a0_p.hashes.length c4,.bool a0_p.split]]) ent227 rfl fun w s=>peer_can_walk a0_p w ((Rd.base h0) w s) ((Rd.base h1) w s) ((Rd.base h2) w s) ((Rd.base h3) w s) ((Rd.base h4) w s) hx5) (rp (Pu.not rfl) (rA rfl (RS.nil (hK5 _ _ ?_))))
  refine T.cond rfl (fun hc6=>?_) (fun hc6=>?_)
  ·have H:=ifT hc6 H
   refine cq [(4,_)] ?_
   refine T.seq fun K6 hK6=>T.region (rp (Pu.build (cells:=[_,_,_,_,_,_,_,_,_,_,_]) st89 rfl rfl) (RS.solid (Sd.stB (cs':=[_,_,_,_,_,_,_,_,_,_,_]) 1 ty89 rfl rfl rfl rfl rfl rfl rfl rfl) rfl rfl fun _=>rA rfl (RS.nil (hK6 _ _ ?_))))
   obtain rfl:=sj H
   refine T.rt (Cont.retCT 1 rfl ty89 rfl rfl rfl rfl fun w' s=>?_)
   exact ⟨⟨(none,0),(none,0),(none,0),(none,0),(.slice none 0 0)⟩,rfl,(((((s.nilRowG (α:=Inp) 210).nilRowG (α:=Inp) 210).nilRow (α:=Int) 3).nilRow (α:=Int) 3).nilOsl (α:=UInt64) 112).pick [2,3,4,5,6] (by decide) rfl⟩
  ·have H:=ifB hc6 H
   refine T.skip (hK2 _ _ (cq [(1,_),(2,_),(4,_)] ?_))
   refine T.seq fun K7 hK7=>T.region (rq (Qt.ldBA (us:=[_,_,_,_,_,_,_,_,_,_,_]) 0 ty89 rfl rfl rfl rfl) ?_)
   obtain ⟨x7,hx7,H⟩:=bindE H
   refine RS.solid (Sd.callN (vs:=[.agg #[.int .i64 a0_p.id,.int .i64 a0_p.players,.int .i64 a0_p.delay,.int .i64 a0_p.turn,.int .i64 a0_p.said,.slice p0 a0_p.mine.length c0,.slice p1 a0_p.inputs.length c1,.slice p2 a0_p.has.length c2,.slice p3 a0_p.acked.length c3,.slice p4 a0_p.hashes.length c4,.bool a0_p.split]]) ent155 rfl (fun w s=>peer_Own_walk a0_p w ((Rd.base h0) w s) ((Rd.base h1) w s) ((Rd.base h2) w s) ((Rd.base h3) w s) ((Rd.base h4) w s) hx7)) rfl rfl fun ⟨q8,q9,q10,q11,q12⟩=>?_
   refine RS.solid (Sd.stB (cs':=[_,_,_,_,_,_,_,_,_,_,_]) 0 ty89 rfl rfl rfl rfl rfl rfl rfl rfl) rfl rfl fun _=>RS.nil (hK7 _ _ ?_)
   refine T.seq fun K8 hK8=>?_
   try dsimp only [List.set,List.cons_append,List.nil_append]
   refine T.region (rp (Pu.fieldAddr fd89_6 rfl) (rq (Qt.ldB 0 ty86 rfl rfl rfl) (rp (Pu.fieldAddr fd89_3 rfl) (rq (Qt.ldB 0 ty3 rfl rfl rfl) ?_))))
   obtain ⟨x13,hx13,H⟩:=bindE H
   refine RS.solid (Sd.callN (vs:=[rowV q9 x7.inputs.length,.int .i64 x7.turn]) ent228 rfl (fun w s=>turns_Part_walk x7.inputs x7.turn w ((Rd.ofG 3 rfl) w s) hx13)) rfl rfl fun ⟨q14,q15⟩=>?_
   refine rM rfl (rp (Pu.extract rfl rfl) (rp (Pu.extract rfl rfl) (rp (Pu.fieldAddr fd89_6 rfl) (RS.solid (Sd.stB (cs':=[_,_,_,_,_,_,_,_,_,_,_]) 0 ty86 rfl rfl rfl rfl rfl rfl rfl rfl) rfl rfl fun _=>RS.nil (hK8 _ _ (cq [(1,_),(2,_),(4,_)] ?_))))))
   refine T.seq fun K9 hK9=>?_
   try dsimp only [List.set,List.cons_append,List.nil_append]
   refine T.region (rp (Pu.fieldAddr fd89_3 rfl) (rq (Qt.ldB 0 ty3 rfl rfl rfl) ?_))
   obtain ⟨g16,H⟩:=gdE H
   refine rp (Pu.addS rfl rfl g16) (rp (Pu.fieldAddr fd89_3 rfl) (RS.solid (Sd.stB (cs':=[_,_,_,_,_,_,_,_,_,_,_]) 0 ty3 rfl rfl rfl rfl rfl rfl rfl rfl) rfl rfl fun _=>RS.nil (hK9 _ _ (cq [(1,_),(2,_),(4,_)] ?_))))
   refine T.seq fun K10 hK10=>T.seq fun K11 hK11=>?_
   try dsimp only [List.set,List.cons_append,List.nil_append]
   refine T.region (rp (Pu.fieldAddr fd89_9 rfl) (rq (Qt.ldB 0 ty87 rfl rfl rfl) (rM rfl (RS.solid (Sd.litS (cs:=[_]) sl87 zr112 rfl rfl rfl rfl rfl) rfl rfl fun b17=>?_))))
   obtain ⟨g19,H⟩:=gdE H
   refine RS.solid (Sd.app1c (α:=UInt64) 6 9 a1_h rfl rfl (nilH_lt _) sl87 zr112 rfl rfl rfl rfl g19 (by decide)) rfl rfl fun q18=>rp (Pu.fieldAddr fd89_9 rfl) (RS.solid (Sd.stB (cs':=[_,_,_,_,_,_,_,_,_,_,_]) 0 ty87 rfl rfl rfl rfl rfl rfl rfl rfl) rfl rfl fun _=>RS.nil (hK11 _ _ (cq [(2,_),(4,_)] ?_)))
   refine T.seq fun K12 hK12=>?_
   try dsimp only [List.set,List.cons_append,List.nil_append]
   refine T.region (rp (Pu.fieldAddr fd89_9 rfl) (rq (Qt.ldB 0 ty87 rfl rfl rfl) (rp (Pu.lenSl sl87 rfl) (rp (Pu.bin rfl rfl rfl) (RS.nil (hK12 _ _ ?_))))))
   refine T.condP rfl (fun hc20=>?_) (fun hc20=>?_)
   ·have H:=ifT hc20 H
    refine cq [(2,_),(4,_)] ?_
    try dsimp only [List.set,List.cons_append,List.nil_append]
    refine T.region (rp (Pu.fieldAddr fd89_9 rfl) (rq (Qt.ldB 0 ty87 rfl rfl rfl) ?_))
    obtain ⟨g21,H⟩:=gdE H
    refine RS.know (fun w s=>(s.row_fits (q:=q18) (m:=(x7.hashes ++ [a1_h]).length) (k:=6) rfl)) fun hf22=>?_
    refine rp (Pu.sliceL sl87 rfl rfl g21) ?_
    refine RS.weakS (fun w s=>(Sat.oslDrop (sz:=1) 6 (1:Int).toNat (Sat.rowOsl (q:=q18) (m:=(x7.hashes ++ [a1_h]).length) 6 s rfl) rfl (le_nat g21) rfl)) ?_
    refine rp (Pu.fieldAddr fd89_9 rfl) (RS.solid (Sd.stB (cs':=[_,_,_,_,_,_,_,_,_,_,_]) 0 ty87 rfl rfl rfl rfl rfl rfl rfl rfl) rfl rfl fun _=>RS.nil (hK10 _ _ (cq [(2,_),(4,_)] ?_)))
    refine T.seq fun K13 hK13=>?_
    try dsimp only [List.set,List.cons_append,List.nil_append]
    refine T.region (rq (Qt.ldBA (us:=[_,_,_,_,_,_,_,_,_,_,_]) 0 ty89 rfl rfl rfl rfl) (RS.solid (Sd.stB (cs':=[_,_,_,_,_,_,_,_,_,_,_]) 1 ty89 rfl rfl rfl rfl rfl rfl rfl rfl) rfl rfl fun _=>rA rfl (RS.nil (hK13 _ _ ?_))))
    obtain rfl:=sj H
    try dsimp only [List.set,List.cons_append,List.nil_append]
    refine T.rt (Cont.retCT 1 rfl ty89 rfl rfl rfl rfl fun w' s=>?_)
    exact ⟨⟨q8,q15,q10,q11,(.slice (cutP (q18.1.map fun g=>(⟨g,0,none⟩:Addr)) q18.2 ((1:Int).toNat) 1) (((x7.hashes ++ [a1_h]).length) - (1:Int).toNat) (q18.2 - (1:Int).toNat))⟩,rfl,s.pick [2,8,4,5,6] (by decide) rfl⟩
   ·have H:=ifF hc20 H
    refine T.skip (hK10 _ _ (cq [(2,_),(4,_)] ?_))
    refine T.seq fun K14 hK14=>?_
    try dsimp only [List.set,List.cons_append,List.nil_append]
    refine T.region (rq (Qt.ldBA (us:=[_,_,_,_,_,_,_,_,_,_,_]) 0 ty89 rfl rfl rfl rfl) (RS.solid (Sd.stB (cs':=[_,_,_,_,_,_,_,_,_,_,_]) 1 ty89 rfl rfl rfl rfl rfl rfl rfl rfl) rfl rfl fun _=>rA rfl (RS.nil (hK14 _ _ ?_))))
    obtain rfl:=sj H
    try dsimp only [List.set,List.cons_append,List.nil_append]
    refine T.rt (Cont.retCT 1 rfl ty89 rfl rfl rfl rfl fun w' s=>?_)
    exact ⟨⟨q8,q15,q10,q11,(rowV q18 ((x7.hashes ++ [a1_h]).length))⟩,rfl,(Sat.rowOsl (q:=q18) (m:=(x7.hashes ++ [a1_h]).length) 6 s rfl).pick [2,8,4,5,6] (by decide) rfl⟩
theorem peer_Say_walk (a0_p:Per) (a1_l:List Cmd) (w:World) {v0 v1 v2 v3 v4 v5:Value} (h0:R (hpOf w) a0_p.mine [v0]) (h1:R (hpOf w) a0_p.inputs [v1]) (h2:R (hpOf w) a0_p.has [v2]) (h3:R (hpOf w) a0_p.acked [v3]) (h4:R (hpOf w) a0_p.hashes [v4]) (h5:R (hpOf w) a1_l [v5]) {r:Per × Int} (H:peer_Say a0_p a1_l = some r):Calls Tryz.prog 105 #[.agg #[.int .i64 a0_p.id,.int .i64 a0_p.players,.int .i64 a0_p.delay,.int .i64 a0_p.turn,.int .i64 a0_p.said,v0,v1,v2,v3,v4,.bool a0_p.split],v5] w fun e w'=>∃ g:(Option Nat × Nat) × (Option Nat × Nat) × (Option Nat × Nat) × (Option Nat × Nat) × (Option Nat × Nat),e = .returned (.tuple #[.agg #[.int .i64 r.1.id,.int .i64 r.1.players,.int .i64 r.1.delay,.int .i64 r.1.turn,.int .i64 r.1.said,rowV g.1 r.1.mine.length,rowV g.2.1 r.1.inputs.length,rowV g.2.2.1 r.1.has.length,rowV g.2.2.2.1 r.1.acked.length,rowV g.2.2.2.2 r.1.hashes.length,.bool r.1.split],.int .i64 r.2])∧Sat w [drow 210 (rowV g.1 r.1.mine.length) r.1.mine,drow 210 (rowV g.2.1 r.1.inputs.length) r.1.inputs,row nilH 3 (rowV g.2.2.1 r.1.has.length) r.1.has,row nilH 3 (rowV g.2.2.2.1 r.1.acked.length) r.1.acked,row nilH 112 (rowV g.2.2.2.2 r.1.hashes.length) r.1.hashes] w':=by
 have hm0:=R_max h0
 obtain ⟨p0,c0,rfl⟩:=R_form h0
 have hm1:=R_max h1
 obtain ⟨p1,c1,rfl⟩:=R_form h1
 have hm2:=R_max h2
 obtain ⟨p2,c2,rfl⟩:=R_form h2
 have hm3:=R_max h3
 obtain ⟨p3,c3,rfl⟩:=R_form h3
 have hm4:=R_max h4
 obtain ⟨p4,c4,rfl⟩:=R_form h4
 have hm5:=R_max h5
 obtain ⟨p5,c5,rfl⟩:=R_form h5
 unfold peer_Say at H
 refine T.enter (args:=[_,_]) (S:=Sat w []) Tryz.func105 rfl rfl (Sat.start w) ?_
 refine T.seq fun K1 hK1=>T.region (RS.solid (Sd.box (cs:=[_,_,_,_,_,_,_,_,_,_,_]) rfl rfl) rfl rfl fun b1=>RS.solid (Sd.alloc zr89 rfl) rfl rfl fun b2=>rA rfl (RS.nil (hK1 _ _ ?_)))
 refine T.seq fun K2 hK2=>T.block (T.seq fun K3 hK3=>T.region (rq (Qt.ldBA (us:=[_,_,_,_,_,_,_,_,_,_,_]) 0 ty89 rfl rfl rfl rfl) ?_))
 obtain ⟨x3,hx3,H⟩:=bindE H
 refine rq (Qt.call (vs:=[.agg #[.int .i64 a0_p.id,.int .i64 a0_p.players,.int .i64 a0_p.delay,.int .i64 a0_p.turn,.int .i64 a0_p.said,.slice p0 a0_p.mine.length c0,.slice p1 a0_p.inputs.length c1,.slice p2 a0_p.has.length c2,.slice p3 a0_p.acked.length c3,.slice p4 a0_p.hashes.length c4,.bool a0_p.split]]) ent58 rfl fun w s=>peer_May_walk a0_p w ((Rd.base h0) w s) ((Rd.base h1) w s) ((Rd.base h2) w s) ((Rd.base h3) w s) ((Rd.base h4) w s) hx3) (rp (Pu.not rfl) (rA rfl (RS.nil (hK3 _ _ ?_))))
 refine T.cond rfl (fun hc4=>?_) (fun hc4=>?_)
 ·have H:=ifT hc4 H
  refine cq [(4,_)] ?_
  refine T.seq fun K4 hK4=>T.region (rp (Pu.build (cells:=[_,_,_,_,_,_,_,_,_,_,_]) st89 rfl rfl) (RS.solid (Sd.stB (cs':=[_,_,_,_,_,_,_,_,_,_,_]) 1 ty89 rfl rfl rfl rfl rfl rfl rfl rfl) rfl rfl fun _=>rA rfl (RS.nil (hK4 _ _ ?_))))
  obtain rfl:=sj H
  refine T.rt (Cont.retCT 1 rfl ty89 rfl rfl rfl rfl fun w' s=>?_)
  exact ⟨⟨(none,0),(none,0),(none,0),(none,0),(none,0)⟩,rfl,(((((s.nilRowG (α:=Inp) 210).nilRowG (α:=Inp) 210).nilRow (α:=Int) 3).nilRow (α:=Int) 3).nilRow (α:=UInt64) 112).pick [2,3,4,5,6] (by decide) rfl⟩
 ·have H:=ifB hc4 H
  refine cq [(1,_),(2,_),(4,_)] ?_
  refine T.seq fun K5 hK5=>T.region (rp (Pu.fieldAddr fd89_4 rfl) (rq (Qt.ldB 0 ty3 rfl rfl rfl) (rp (Pu.fieldAddr fd89_3 rfl) (rq (Qt.ldB 0 ty3 rfl rfl rfl) (rp (Pu.fieldAddr fd89_2 rfl) (rq (Qt.ldB 0 ty3 rfl rfl rfl) ?_))))))
  obtain ⟨g5,H⟩:=gdE H
  refine rp (Pu.addS rfl rfl g5) ?_
  obtain ⟨g6,H⟩:=gdE H
  refine rp (Pu.subS rfl rfl g6) (rp (Pu.bin rfl rfl rfl) (rM rfl ?_))
  refine RS.joinV 4 26 (.bool (decide ((a0_p.said = ((a0_p.turn + a0_p.delay) - 1)) ∨ (a0_p.said = 1099511627776)))) [(1,_),(2,_),(4,_)] ⟨rfl,rfl,rfl,trivial⟩ ?_ ?_
  ·refine rA rfl (RS.nil (hK5 _ _ ?_))
   refine T.condP rfl (fun hc9=>?_) (fun hc9=>?_)
   ·have H:=ifT hc9 H
    refine cq [(4,_)] ?_
    refine T.seq fun K6 hK6=>T.region (rp (Pu.build (cells:=[_,_,_,_,_,_,_,_,_,_,_]) st89 rfl rfl) (RS.solid (Sd.stB (cs':=[_,_,_,_,_,_,_,_,_,_,_]) 1 ty89 rfl rfl rfl rfl rfl rfl rfl rfl) rfl rfl fun _=>rA rfl (RS.nil (hK6 _ _ ?_))))
    obtain rfl:=sj H
    refine T.rt (Cont.retCT 1 rfl ty89 rfl rfl rfl rfl fun w' s=>?_)
    exact ⟨⟨(none,0),(none,0),(none,0),(none,0),(none,0)⟩,rfl,(((((s.nilRowG (α:=Inp) 210).nilRowG (α:=Inp) 210).nilRow (α:=Int) 3).nilRow (α:=Int) 3).nilRow (α:=UInt64) 112).pick [2,3,4,5,6] (by decide) rfl⟩
   ·have H:=ifF hc9 H
    refine T.seq fun K7 hK7=>T.region (rp (Pu.fieldAddr fd89_0 rfl) (rq (Qt.ldB 0 ty3 rfl rfl rfl) (rM rfl ?_)))
    obtain ⟨x10,hx10,H⟩:=bindE H
    refine rq (Qt.call (vs:=[.int .i64 a0_p.id,.slice p5 a1_l.length c5]) ent154 rfl fun w s=>turns_Said_walk a0_p.id a1_l w ((Rd.base h5) w s) hx10) (rp (Pu.not rfl) (rA rfl (RS.nil (hK7 _ _ ?_))))
    refine T.cond rfl (fun hc11=>?_) (fun hc11=>?_)
    ·have H:=ifT hc11 H
     refine cq [(4,_)] ?_
     refine T.seq fun K8 hK8=>T.region (rp (Pu.build (cells:=[_,_,_,_,_,_,_,_,_,_,_]) st89 rfl rfl) (RS.solid (Sd.stB (cs':=[_,_,_,_,_,_,_,_,_,_,_]) 1 ty89 rfl rfl rfl rfl rfl rfl rfl rfl) rfl rfl fun _=>rA rfl (RS.nil (hK8 _ _ ?_))))
     obtain rfl:=sj H
     refine T.rt (Cont.retCT 1 rfl ty89 rfl rfl rfl rfl fun w' s=>?_)
     exact ⟨⟨(none,0),(none,0),(none,0),(none,0),(none,0)⟩,rfl,(((((s.nilRowG (α:=Inp) 210).nilRowG (α:=Inp) 210).nilRow (α:=Int) 3).nilRow (α:=Int) 3).nilRow (α:=UInt64) 112).pick [2,3,4,5,6] (by decide) rfl⟩
    ·have H:=ifB hc11 H
     refine T.skip (hK2 _ _ (cq [(1,_),(2,_),(4,_)] ?_))
     refine T.seq fun K9 hK9=>T.region (rq (Qt.ldBA (us:=[_,_,_,_,_,_,_,_,_,_,_]) 0 ty89 rfl rfl rfl rfl) ?_)
     obtain ⟨x12,hx12,H⟩:=bindE H
     refine RS.solid (Sd.callN (vs:=[.agg #[.int .i64 a0_p.id,.int .i64 a0_p.players,.int .i64 a0_p.delay,.int .i64 a0_p.turn,.int .i64 a0_p.said,.slice p0 a0_p.mine.length c0,.slice p1 a0_p.inputs.length c1,.slice p2 a0_p.has.length c2,.slice p3 a0_p.acked.length c3,.slice p4 a0_p.hashes.length c4,.bool a0_p.split]]) ent155 rfl (fun w s=>peer_Own_walk a0_p w ((Rd.base h0) w s) ((Rd.base h1) w s) ((Rd.base h2) w s) ((Rd.base h3) w s) ((Rd.base h4) w s) hx12)) rfl rfl fun ⟨q13,q14,q15,q16,q17⟩=>?_
     refine RS.solid (Sd.stB (cs':=[_,_,_,_,_,_,_,_,_,_,_]) 0 ty89 rfl rfl rfl rfl rfl rfl rfl rfl) rfl rfl fun _=>RS.nil (hK9 _ _ ?_)
     refine T.seq fun K10 hK10=>?_
     try dsimp only [List.set,List.cons_append,List.nil_append]
     refine T.region (rp (Pu.fieldAddr fd89_4 rfl) (rq (Qt.ldB 0 ty3 rfl rfl rfl) ?_))
     obtain ⟨g18,H⟩:=gdE H
     refine rp (Pu.addS rfl rfl g18) (rp (Pu.fieldAddr fd89_4 rfl) (RS.solid (Sd.stB (cs':=[_,_,_,_,_,_,_,_,_,_,_]) 0 ty3 rfl rfl rfl rfl rfl rfl rfl rfl) rfl rfl fun _=>RS.nil (hK10 _ _ (cq [(1,_),(2,_),(4,_)] ?_))))
     refine T.seq fun K11 hK11=>?_
     try dsimp only [List.set,List.cons_append,List.nil_append]
     refine T.region (rp (Pu.fieldAddr fd89_4 rfl) (rq (Qt.ldB 0 ty3 rfl rfl rfl) (rp (Pu.fieldAddr fd89_0 rfl) (rq (Qt.ldB 0 ty3 rfl rfl rfl) (rM rfl (rp (Pu.build (cells:=[_,_,_]) st210 rfl rfl) (RS.solid (Sd.alloc zr210 rfl) rfl rfl fun b19=>RS.solid (Sd.stB (cs':=[_,_,_]) 7 ty210 rfl rfl rfl rfl rfl rfl rfl rfl) rfl rfl fun _=>RS.nil (hK11 _ _ (cq [(2,_),(4,_),(6,_)] ?_)))))))))
     refine T.seq fun K12 hK12=>?_
     try dsimp only [List.set,List.cons_append,List.nil_append]
     refine T.region (rp (Pu.fieldAddr fd89_6 rfl) (rq (Qt.ldB 0 ty86 rfl rfl rfl) (rq (Qt.ldBA (us:=[_,_,_]) 7 ty210 rfl rfl rfl rfl) ?_)))
     obtain ⟨x20,hx20,H⟩:=bindE H
     refine RS.solid (Sd.callN (vs:=[rowV q14 x12.inputs.length,.agg #[.int .i64 (x12.said + 1),.int .i64 x12.id,.slice p5 a1_l.length c5]]) ent156 rfl (fun w s=>turns_In_walk x12.inputs (⟨(x12.said + 1),x12.id,a1_l⟩:Inp) w ((Rd.ofG 3 rfl) w s) ((Rd.base h5) w s) hx20)) rfl rfl fun q21=>rM rfl (rp (Pu.extract rfl rfl) (rp (Pu.extract rfl rfl) (rp (Pu.fieldAddr fd89_6 rfl) (RS.solid (Sd.stB (cs':=[_,_,_,_,_,_,_,_,_,_,_]) 0 ty86 rfl rfl rfl rfl rfl rfl rfl rfl) rfl rfl fun _=>RS.nil (hK12 _ _ (cq [(2,_),(4,_),(6,_)] ?_))))))
     refine T.seq fun K13 hK13=>T.seq fun K14 hK14=>?_
     try dsimp only [List.set,List.cons_append,List.nil_append]
     refine T.region (rp (Pu.fieldAddr fd89_1 rfl) (rq (Qt.ldB 0 ty3 rfl rfl rfl) (rp (Pu.bin rfl rfl rfl) (RS.nil (hK14 _ _ ?_)))))
     refine T.joinE (σ:=List Inp) (γ:=(Option Nat × Nat)) H (fun s=>s) [(2,_),(4,_)] ⟨rfl,rfl,trivial⟩ (fun v23 q24=>[]) (fun v23 q24=>Sat w [blk b1 [.int .i64 x12.id,.int .i64 x12.players,.int .i64 x12.delay,.int .i64 x12.turn,.int .i64 (x12.said + 1),rowV q24 v23.length,rowV q21 x20.1.length,rowV q15 x12.has.length,rowV q16 x12.acked.length,rowV q17 x12.hashes.length,.bool x12.split] 89,blk b2 [.int .i64 0,.int .i64 0,.int .i64 0,.int .i64 0,.int .i64 0,.slice none 0 0,.slice none 0 0,.slice none 0 0,.slice none 0 0,.slice none 0 0,.bool false] 89,drow 210 (rowV q24 v23.length) v23,drow 210 (rowV q14 x12.inputs.length) x12.inputs,row nilH 3 (rowV q15 x12.has.length) x12.has,row nilH 3 (rowV q16 x12.acked.length) x12.acked,row nilH 112 (rowV q17 x12.hashes.length) x12.hashes,blk b19 [.int .i64 (x12.said + 1),.int .i64 x12.id,.slice p5 a1_l.length c5] 210,drow 210 (rowV q21 x20.1.length) x20.1]) ?_ ?_
     ·rintro v23 q24 H
      try dsimp only [Ex.then] at H
      refine Cont.conseq (fr':=[(2,_),(4,_)]) ?_ ⟨rfl,rfl,trivial⟩ (fun _ s=>s)
      refine id (hK13 _ _ ?_)
      refine T.seq fun K15 hK15=>?_
      try dsimp only [List.set,List.cons_append,List.nil_append]
      refine T.weakS (S':=Sat w [blk b1 [.int .i64 x12.id,.int .i64 x12.players,.int .i64 x12.delay,.int .i64 x12.turn,.int .i64 (x12.said + 1),rowV q24 v23.length,rowV q21 x20.1.length,rowV q15 x12.has.length,rowV q16 x12.acked.length,rowV q17 x12.hashes.length,.bool x12.split] 89,blk b2 [.int .i64 0,.int .i64 0,.int .i64 0,.int .i64 0,.int .i64 0,.slice none 0 0,.slice none 0 0,.slice none 0 0,.slice none 0 0,.slice none 0 0,.bool false] 89,drow 210 (rowV q24 v23.length) v23,drow 210 (rowV q14 x12.inputs.length) x12.inputs,row nilH 3 (rowV q15 x12.has.length) x12.has,row nilH 3 (rowV q16 x12.acked.length) x12.acked,row nilH 112 (rowV q17 x12.hashes.length) x12.hashes,blk b19 [.int .i64 (x12.said + 1),.int .i64 x12.id,.slice p5 a1_l.length c5] 210,drow 210 (rowV q21 x20.1.length) x20.1]) (fun w s=>s) ?_
      refine T.drawnS [0,1,2,3,6,7,8] [(0,.pu),(1,.rd),(2,.pu),(3,.rd),(4,.pu),(5,.pu),(6,.wk),(7,.pu),(8,.wk),(9,.pu),(10,.pu),(11,.rd),(12,.pu),(13,.wk),(14,.pu),(15,.br),(16,.pu),(17,.br)] mixed (by kernel_rfl) rfl ?_
      refine RD.p (fun w s=>s.pick [0,1,2,3,6,7,8] (by decide) rfl) rfl (Pu.fieldAddr fd89_7 rfl) rfl rfl (RD.q (fun w s=>s.pick [0,1,2,3,6,7,8] (by decide) rfl) rfl (Qt.ldB 0 ty35 rfl rfl rfl) rfl rfl (RD.p (fun w s=>s.pick [0,1,2,3,6,7,8] (by decide) rfl) rfl (Pu.fieldAddr fd89_0 rfl) rfl rfl (RD.q (fun w s=>s.pick [0,1,2,3,6,7,8] (by decide) rfl) rfl (Qt.ldB 0 ty3 rfl rfl rfl) rfl rfl ?_)))
      obtain ⟨g25,H⟩:=gdE H
      refine RD.p (fun w s=>s.pick [0,1,2,3,6,7,8] (by decide) rfl) rfl (Pu.subS rfl rfl g25) rfl rfl (RD.p (fun w s=>s.pick [0,1,2,3,6,7,8] (by decide) rfl) rfl (Pu.fieldAddr fd89_8 rfl) rfl rfl ?_)
      refine RD.w (fun w s=>s.pick [0,1,2,3,6,7,8] (by decide) rfl) rfl (Qt.ldB 0 ty35 rfl rfl rfl) rfl rfl ?_
      refine RD.p (fun w s=>s.pick [0,1,2,3,6,7,8] (by decide) rfl) rfl (Pu.fieldAddr fd89_0 rfl) rfl rfl ?_
      refine RD.w (fun w s=>s.pick [0,1,2,3,6,7,8] (by decide) rfl) rfl (Qt.ldB 0 ty3 rfl rfl rfl) rfl rfl ?_
      obtain ⟨g26,H⟩:=gdE H
      refine RD.p (fun w s=>s.pick [0,1,2,3,6,7,8] (by decide) rfl) rfl (Pu.subS rfl rfl g26) rfl rfl (RD.p (fun w s=>s.pick [0,1,2,3,6,7,8] (by decide) rfl) rfl (Pu.fieldAddr fd89_4 rfl) rfl rfl (RD.q (fun w s=>s.pick [0,1,2,3,6,7,8] (by decide) rfl) rfl (Qt.ldB 0 ty3 rfl rfl rfl) rfl rfl (RD.p (fun w s=>s.pick [0,1,2,3,6,7,8] (by decide) rfl) rfl (Pu.fieldAddr fd89_4 rfl) rfl rfl ?_)))
      refine RD.w (fun w s=>s.pick [0,1,2,3,6,7,8] (by decide) rfl) rfl (Qt.ldB 0 ty3 rfl rfl rfl) rfl rfl ?_
      obtain ⟨g27,H⟩:=gdE H
      refine RD.know (p:=∃ g cap,q15 = (some g,cap)) (fun w s=>(s.row_some (k:=4) rfl (pos_of g27))) ?_
      rintro ⟨gg28,cc29,rfl⟩
      refine RD.p (fun w s=>s.pick [0,1,2,3,6,7,8] (by decide) rfl) rfl (Pu.indexSl sl35 rfl rfl g27) rfl rfl (RD.solid rfl (.inr rfl) rfl rfl (Sd.st0 (α:=Int) 4 (x12.said + 1) rfl ty3 rfl rfl rfl g27 rfl rfl (by decide) rfl (by rintro _ _ rfl; rfl)) (fun _=>ClE.sat _ _) (fun _ w s=>s.pick [0,1,2,3,6,7,8] (by decide) rfl) (fun h=>nomatch h) fun _=>?_)
      obtain ⟨g30,H⟩:=gdE H
      refine RD.know (p:=∃ g cap,q16 = (some g,cap)) (fun w s=>(s.row_some (k:=5) rfl (pos_of g30))) ?_
      rintro ⟨gg31,cc32,rfl⟩
      refine RD.p (fun w s=>s.pick [0,1,2,3,6,7,8] (by decide) rfl) rfl (Pu.indexSl sl35 rfl rfl g30) rfl rfl (RD.solid rfl (.inr rfl) rfl rfl (Sd.st0 (α:=Int) 5 (x12.said + 1) rfl ty3 rfl rfl rfl g30 rfl rfl (by decide) rfl (by rintro _ _ rfl; rfl)) (fun _=>ClE.sat _ _) (fun _ w s=>s.pick [0,1,2,3,6,7,8] (by decide) rfl) (fun h=>nomatch h) fun _=>?_)
      refine RD.nil (hK15 _ _ (cq [(2,_),(4,_)] ?_))
      refine T.seq fun K16 hK16=>?_
      try dsimp only [List.set,List.cons_append,List.nil_append]
      refine T.region (rq (Qt.ldBA (us:=[_,_,_,_,_,_,_,_,_,_,_]) 0 ty89 rfl rfl rfl rfl) (RS.solid (Sd.stB (cs':=[_,_,_,_,_,_,_,_,_,_,_]) 1 ty89 rfl rfl rfl rfl rfl rfl rfl rfl) rfl rfl fun _=>rA rfl (RS.nil (hK16 _ _ ?_))))
      obtain rfl:=sj H
      try dsimp only [List.set,List.cons_append,List.nil_append]
      refine T.rt (Cont.retCT 1 rfl ty89 rfl rfl rfl rfl fun w' s=>?_)
      exact ⟨⟨q24,q21,(some gg28,cc29),(some gg31,cc32),q17⟩,(by simp only [(s.row_fits (q:=(some gg28,cc29)) (m:=x12.has.length) (k:=4) rfl).1,(s.row_fits (q:=(some gg31,cc32)) (m:=x12.acked.length) (k:=5) rfl).1]; try rfl),(Sat.relen (q:=(some gg31,cc32)) (m:=x12.acked.length) 5 (Sat.relen (q:=(some gg28,cc29)) (m:=x12.has.length) 4 s rfl) rfl).pick [2,8,4,5,6] (by decide) rfl⟩
     ·intro z22 H HX22 hJ22
      refine T.condP rfl (fun hc33=>?_) (fun hc33=>?_)
      ·have H:=ifT hc33 H
       refine cq [(2,_),(4,_),(6,_)] ?_
       try dsimp only [List.set,List.cons_append,List.nil_append]
       refine T.weakS (S':=Sat w [blk b1 [.int .i64 x12.id,.int .i64 x12.players,.int .i64 x12.delay,.int .i64 x12.turn,.int .i64 (x12.said + 1),rowV q13 x12.mine.length,rowV q21 x20.1.length,rowV q15 x12.has.length,rowV q16 x12.acked.length,rowV q17 x12.hashes.length,.bool x12.split] 89,blk b2 [.int .i64 0,.int .i64 0,.int .i64 0,.int .i64 0,.int .i64 0,.slice none 0 0,.slice none 0 0,.slice none 0 0,.slice none 0 0,.slice none 0 0,.bool false] 89,drow 210 (rowV q13 x12.mine.length) x12.mine,drow 210 (rowV q14 x12.inputs.length) x12.inputs,row nilH 3 (rowV q15 x12.has.length) x12.has,row nilH 3 (rowV q16 x12.acked.length) x12.acked,row nilH 112 (rowV q17 x12.hashes.length) x12.hashes,blk b19 [.int .i64 (x12.said + 1),.int .i64 x12.id,.slice p5 a1_l.length c5] 210,drow 210 (rowV q21 x20.1.length) x20.1]) (fun w s=>s) ?_
       refine T.drawnS [1,3,4,5,6,7,8] [(0,.pu),(1,.rd),(2,.wk),(3,.so),(4,.so),(5,.br),(6,.pu),(7,.br)] mixed (by kernel_rfl) rfl ?_
       refine RD.p (fun w s=>s.pick [1,3,4,5,6,7,8] (by decide) rfl) rfl (Pu.fieldAddr fd89_5 rfl) rfl rfl (RD.q (fun w s=>s.pick [1,3,4,5,6,7,8] (by decide) rfl) rfl (Qt.ldB 0 ty86 rfl rfl rfl) rfl rfl ?_)
       refine RD.w (fun w s=>s.pick [1,3,4,5,6,7,8] (by decide) rfl) rfl (Qt.ldBA (us:=[_,_,_]) 5 ty210 rfl rfl rfl rfl) rfl rfl ?_
       obtain ⟨x34,hx34,H⟩:=bindE H
       refine RD.solid rfl (.inl rfl) rfl rfl (Sd.callN (vs:=[.agg #[.int .i64 (x12.said + 1),.int .i64 x12.id,.slice p5 a1_l.length c5]]) ent157 rfl (fun w s=>turns_Own_walk (⟨(x12.said + 1),x12.id,a1_l⟩:Inp) w ((Rd.base h5) w s) hx34)) (fun _=>ClE.sat _ _) (fun _ w s=>s.pick [1,3,4,5,6,7,8] (by decide) rfl) (fun _ _ _ s=>s.drop1) fun q35=>?_
       refine RD.solid rfl (.inl rfl) rfl rfl (Sd.litS (cs:=[_,_,_]) sl86 zr210 rfl rfl rfl rfl rfl) (fun _=>ClE.sat _ _) (fun _ w s=>s.pick [1,3,4,5,6,7,8] (by decide) rfl) (fun _ _ _ s=>s.drop1) fun b36=>?_
       obtain ⟨g38,H⟩:=gdE H
       refine RD.solid rfl (.inr rfl) rfl rfl (Sd.pre (fun w s=>(Sat.starAt 9 11 (Sat.starAt 9 12 ((s.noStars).noStars) rfl rfl (by decide)) rfl rfl (by decide))) (Sd.appL (α:=Inp) 2 10 9 ([x34]:List Inp) rfl rfl rfl (DRF.cons' (α:=Inp) (x:=x34) (fun _ h=>⟨_,rfl,h⟩) DRF.nil') rfl sl86 zr210 rfl rfl rfl rfl g38 (by decide))) (fun _=>ClE.sat _ _) (fun _ w s=>s.pick [1,3,4,5,6,7,8] (by decide) rfl) (fun h=>nomatch h) fun q37=>?_
       refine RD.p (fun w s=>s.pick [1,3,4,5,6,7,8] (by decide) rfl) rfl (Pu.fieldAddr fd89_5 rfl) rfl rfl (RD.solid rfl (.inr rfl) rfl rfl (Sd.stB (cs':=[_,_,_,_,_,_,_,_,_,_,_]) 0 ty86 rfl rfl rfl rfl rfl rfl rfl rfl) (fun _=>ClE.sat _ _) (fun _ w s=>s.pick [1,3,4,5,6,7,8] (by decide) rfl) (fun h=>nomatch h) fun _=>?_)
       obtain rfl:=sj H
       refine RD.nil (hJ22 _ _ (x12.mine ++ ([x34]:List Inp)) q37 HX22 ⟨rfl,rfl,trivial⟩ trivial (fun w s=>s.pick [0,1,2,3,4,5,6,7,8] (by decide) rfl))
      ·have H:=ifF hc33 H
       obtain rfl:=sj H
       refine T.skip (hJ22 _ _ x12.mine q13 HX22 ⟨rfl,rfl,trivial⟩ trivial (fun w s=>s))
  ·intro hJ8
   refine RS.splitP 22 rfl (fun hc7=>?_) (fun hc7=>?_)
   ·refine ro (ro (ro (rp (Pu.pickT rfl rfl) ?_)))
    exact hJ8 _ _ ⟨dOrT hc7,rfl,rfl,rfl,trivial⟩ (fun w s=>s)
   ·refine rp (Pu.fieldAddr fd89_4 rfl) (rq (Qt.ldB 0 ty3 rfl rfl rfl) (rp (Pu.bin rfl rfl rfl) (rp (Pu.pickF rfl rfl) ?_)))
    exact hJ8 _ _ ⟨dOrF hc7,rfl,rfl,rfl,trivial⟩ (fun w s=>s)
theorem slices_IndexFuncI_walk (a0_s:List Inp) (a1_f:Inp→Option Bool) (w:World) {v0 v1:Value} (h0:R (hpOf w) a0_s [v0]) (h1:FnR Tryz.prog w v1 (fun (y0:Inp) c=>∃ u0:Value,c = [.agg #[.int .i64 y0.turn,.int .i64 y0.player,u0]]) (fun (r:Bool)=>.bool r) a1_f) {r:Int} (H:slices_IndexFuncI a0_s a1_f = some r):Calls Tryz.prog 158 #[v0,v1] w fun e w'=>e = .returned (.int .i64 r)∧Ext w w':=by
 have hm0:=R_max h0
 obtain ⟨p0,c0,rfl⟩:=R_form h0
 unfold slices_IndexFuncI at H
 refine T.enter (args:=[_,_]) (S:=Sat w []) Tryz.func158 rfl rfl (Sat.start w) ?_
 refine T.seq fun K1 hK1=>T.region (rA rfl (RS.nil (hK1 _ _ ?_)))
 refine T.seq fun K2 hK2=>T.seq fun K3 hK3=>T.region (rM rfl (rp (Pu.lenSl sl86 rfl) (rM rfl (RS.nil (hK3 _ _ ?_)))))
 refine T.joinE (σ:=Unit) (γ:=Unit) H Ex.go [] trivial (fun _ _=>[]) (fun _ _=>Sat w []) ?_ ?_
 ·rintro ⟨⟩ ⟨⟩ H
  try dsimp only [Ex.then] at H
  refine Cont.conseq (fr':=[]) ?_ trivial (fun _ s=>s)
  refine id (hK2 _ _ ?_)
  refine T.seq fun K4 hK4=>T.region (rA rfl (RS.nil (hK4 _ _ ?_)))
  obtain rfl:=sj H
  refine T.rt (Cont.ret1 rfl rfl fun w' s=>?_)
  exact ⟨rfl,s.ext⟩
 ·intro z1 hz1 HX1 hJ1
  refine T.block ?_
  refine T.loopA (γ:=Unit) hz1 [(0,_),(1,_),(7,_)] (fun v2 _=>[(8,.int .i64 v2)]) (fun v2 _=>Sat w []) () ⟨rfl,rfl,rfl,trivial⟩ ⟨rfl,trivial⟩ (fun w s=>s) ?_
  rintro v2 ⟨⟩ y3 H hd1 KL1 hL1
  try dsimp only [Ex.then] at H
  refine cq [(8,_),(0,_),(1,_),(7,_)] ?_
  refine T.seq fun K5 hK5=>T.region (rp (Pu.bin rfl rfl rfl) (RS.nil (hK5 _ _ ?_)))
  refine T.seq fun K6 hK6=>?_
  refine T.condP rfl (fun hc4=>?_) (fun hc4=>?_)
  ·have H:=ifT hc4 H
   refine T.skip (hK6 _ _ ?_)
   refine T.seq fun K7 hK7=>T.block (T.seq fun K8 hK8=>T.region (rM rfl (rA rfl (RS.nil (hK8 _ _ ?_)))))
   refine T.seq fun K9 hK9=>T.region (rM rfl (rM rfl (rM rfl ?_)))
   obtain ⟨g5,H⟩:=gdE H
   obtain ⟨bl6,ol7,rfl⟩:=R_ptr h0 (ne_of_pos (pos_of g5))
   refine rp (Pu.indexSl sl86 rfl rfl g5) ?_
   obtain ⟨c8,hc9,ha10⟩:=R_el (α:=Inp) h0 g5
   obtain ⟨u11,rfl,hu11⟩:=hc9
   obtain ⟨p12,cc13,rfl⟩:=R_form hu11
   refine rq (Qt.ldZ (cs:=[_,_,_]) ty210 rfl ha10 Held.base rfl) ?_
   obtain ⟨x14,hx14,H⟩:=bindE H
   refine rq (Qt.callR rfl h1 (fun w s=>s.ext) hx14 rfl ⟨_,rfl⟩) (RS.nil (hK9 _ _ ?_))
   refine T.cond rfl (fun hc15=>?_) (fun hc15=>?_)
   ·have H:=ifT hc15 H
    refine cq [(5,_)] ?_
    refine T.seq fun K10 hK10=>T.region (rM rfl (rA rfl (RS.nil (hK10 _ _ ?_))))
    obtain rfl:=hd1 _ H
    have H:=HX1
    obtain rfl:=sj H
    refine T.rt (Cont.ret1 rfl rfl fun w' s=>?_)
    exact ⟨rfl,s.ext⟩
   ·have H:=ifB hc15 H
    refine T.skip (hK7 _ _ (cq [(0,_),(1,_),(7,_),(8,_)] ?_))
    refine T.region ?_
    obtain ⟨g16,H⟩:=gdE H
    refine rp (Pu.addS rfl rfl g16) (rM rfl (RS.nil (hL1 _ _ (v2 + 1) () H ⟨rfl,rfl,rfl,trivial⟩ ⟨rfl,trivial⟩ (fun w s=>s))))
  ·have H:=ifF hc4 H
   obtain rfl:=hd1 _ H
   refine T.xt (hJ1 _ _ () () HX1 trivial trivial (fun w s=>s))
theorem peer_Notes_1_walk (a0_i:Inp) (cv0:Per) (cv1:Int) (w:World) {v0 v1 v2 v3 v4 v5:Value} {p1g p2g:Nat} (hb1:blk p1g [.int .i64 cv0.id,.int .i64 cv0.players,.int .i64 cv0.delay,.int .i64 cv0.turn,.int .i64 cv0.said,v1,v2,v3,v4,v5,.bool cv0.split] 89 (hpOf w)) (h1:R (hpOf w) cv0.mine [v1]) (h2:R (hpOf w) cv0.inputs [v2]) (h3:R (hpOf w) cv0.has [v3]) (h4:R (hpOf w) cv0.acked [v4]) (h5:R (hpOf w) cv0.hashes [v5]) (hb2:blk p2g [.int .i64 cv1] 3 (hpOf w)) {r:Bool} (H:peer_Notes_1 a0_i cv0 cv1 = some r):Calls Tryz.prog 159 #[.agg #[.int .i64 a0_i.turn,.int .i64 a0_i.player,v0],.pointer (some ⟨p1g,0,none⟩),.pointer (some ⟨p2g,0,none⟩)] w fun e w'=>e = .returned (.bool r)∧Ext w w':=by
 have hm1:=R_max h1
 obtain ⟨p1,c1,rfl⟩:=R_form h1
 have hm2:=R_max h2
 obtain ⟨p2,c2,rfl⟩:=R_form h2
 have hm3:=R_max h3
 obtain ⟨p3,c3,rfl⟩:=R_form h3
 have hm4:=R_max h4
 obtain ⟨p4,c4,rfl⟩:=R_form h4
 have hm5:=R_max h5
 obtain ⟨p5,c5,rfl⟩:=R_form h5
 unfold peer_Notes_1 at H
 refine T.enter (args:=[_,_,_]) (S:=Sat w []) Tryz.func159 rfl rfl (Sat.start w) ?_
 refine T.seq fun K1 hK1=>T.region (RS.solid (Sd.box (cs:=[_,_,_]) rfl rfl) rfl rfl fun b1=>rA rfl (RS.nil (hK1 _ _ ?_)))
 refine T.seq fun K2 hK2=>?_
 refine T.drawn (fun _=>True) [(0,.pu),(1,.rd),(2,.pu),(3,.rd),(4,.rd),(5,.pu),(6,.pu),(7,.rd),(8,.pu),(9,.pu),(10,.pu)] mixed (ClE.sat _ _) (by kernel_rfl) ?_
 refine dp rfl (Pu.fieldAddr fd210_0 rfl) (dq rfl (Qt.ldB 0 ty3 rfl rfl rfl) (dp rfl (Pu.fieldAddr fd89_8 rfl) (dq rfl (Qt.ldX ty35 rfl hb1 (fun w s=>s.ext) rfl) (dq rfl (Qt.ldX ty3 rfl hb2 (fun w s=>s.ext) rfl) ?_))))
 obtain ⟨g2,H⟩:=gdE H
 refine dp rfl (Pu.subS rfl rfl g2) ?_
 obtain ⟨g3,H⟩:=gdE H
 obtain ⟨bl4,ol5,rfl⟩:=R_ptr h4 (ne_of_pos (pos_of g3))
 refine dp rfl (Pu.indexSl sl35 rfl rfl g3) (dq rfl (Qt.ld0 (α:=Int) (Rd.base h4) ty3 rfl rfl g3 (by rintro _ _ rfl; rfl)) ?_)
 obtain ⟨g6,H⟩:=gdE H
 refine dp rfl (Pu.addS rfl rfl g6) (dp rfl (Pu.bin rfl rfl rfl) (dp rfl (Pu.assign rfl) (RD.nil (hK2 _ _ (cq [(4,_)] ?_)))))
 obtain rfl:=sj H
 refine T.rt (Cont.ret1 rfl rfl fun w' s=>?_)
 exact ⟨rfl,s.ext⟩
theorem peer_Notes_walk (a0_p:Per) (w:World) {v0 v1 v2 v3 v4:Value} (h0:R (hpOf w) a0_p.mine [v0]) (h1:R (hpOf w) a0_p.inputs [v1]) (h2:R (hpOf w) a0_p.has [v2]) (h3:R (hpOf w) a0_p.acked [v3]) (h4:R (hpOf w) a0_p.hashes [v4]) {r:List Nte × Int} (H:peer_Notes a0_p = some r):Calls Tryz.prog 106 #[.agg #[.int .i64 a0_p.id,.int .i64 a0_p.players,.int .i64 a0_p.delay,.int .i64 a0_p.turn,.int .i64 a0_p.said,v0,v1,v2,v3,v4,.bool a0_p.split]] w fun e w'=>∃ q1:(Option Nat × Nat),e = .returned (.tuple #[rowV q1 r.1.length,.int .i64 r.2])∧Sat w [drow 212 (rowV q1 r.1.length) r.1] w':=by
 have hm0:=R_max h0
 obtain ⟨p0,c0,rfl⟩:=R_form h0
 have hm1:=R_max h1
 obtain ⟨p1,c1,rfl⟩:=R_form h1
 have hm2:=R_max h2
 obtain ⟨p2,c2,rfl⟩:=R_form h2
 have hm3:=R_max h3
 obtain ⟨p3,c3,rfl⟩:=R_form h3
 have hm4:=R_max h4
 obtain ⟨p4,c4,rfl⟩:=R_form h4
 unfold peer_Notes at H
 refine T.enter (args:=[_]) (S:=Sat w []) Tryz.func106 rfl rfl (Sat.start w) ?_
 refine T.seq fun K1 hK1=>T.region (RS.solid (Sd.box (cs:=[_,_,_,_,_,_,_,_,_,_,_]) rfl rfl) rfl rfl fun b1=>rA rfl (rA rfl (RS.nil (hK1 _ _ ?_))))
 refine T.seq fun K2 hK2=>T.seq fun K3 hK3=>T.region (rq (Qt.ldBA (us:=[_,_,_,_,_,_,_,_,_,_,_]) 0 ty89 rfl rfl rfl rfl) ?_)
 obtain ⟨x2,hx2,H⟩:=bindE H
 refine rq (Qt.call (vs:=[.agg #[.int .i64 a0_p.id,.int .i64 a0_p.players,.int .i64 a0_p.delay,.int .i64 a0_p.turn,.int .i64 a0_p.said,.slice p0 a0_p.mine.length c0,.slice p1 a0_p.inputs.length c1,.slice p2 a0_p.has.length c2,.slice p3 a0_p.acked.length c3,.slice p4 a0_p.hashes.length c4,.bool a0_p.split]]) ent58 rfl fun w s=>peer_May_walk a0_p w ((Rd.base h0) w s) ((Rd.base h1) w s) ((Rd.base h2) w s) ((Rd.base h3) w s) ((Rd.base h4) w s) hx2) (rp (Pu.not rfl) (RS.nil (hK3 _ _ ?_)))
 refine T.cond rfl (fun hc3=>?_) (fun hc3=>?_)
 ·have H:=ifT hc3 H
  refine cq [] ?_
  refine T.seq fun K4 hK4=>T.region (rA rfl (rA rfl (RS.nil (hK4 _ _ ?_))))
  obtain rfl:=sj H
  refine T.rt (Cont.ret2 rfl rfl rfl fun w' s=>?_)
  exact ⟨(none,0),rfl,(s.nilRowG (α:=Nte) 212).pick [1] (by decide) rfl⟩
 ·have H:=ifB hc3 H
  refine T.skip (hK2 _ _ (cq [(1,_),(2,_)] ?_))
  refine T.seq fun K5 hK5=>T.seq fun K6 hK6=>T.region (RS.solid (Sd.alloc zr3 rfl) rfl rfl fun b4=>RS.solid (Sd.stB (cs':=[_]) 1 ty3 rfl rfl rfl rfl rfl rfl rfl rfl) rfl rfl fun _=>RS.nil (hK6 _ _ ?_))
  refine T.joinE (σ:=Int × List Nte) (γ:=Nat × (Option Nat × Nat)) H (fun s=>s) [] trivial (fun (v6,v8) (q7,q9)=>[(2,rowV q9 v8.length)]) (fun (v6,v8) (q7,q9)=>Sat w [blk b1 [.int .i64 a0_p.id,.int .i64 a0_p.players,.int .i64 a0_p.delay,.int .i64 a0_p.turn,.int .i64 a0_p.said,.slice p0 a0_p.mine.length c0,.slice p1 a0_p.inputs.length c1,.slice p2 a0_p.has.length c2,.slice p3 a0_p.acked.length c3,.slice p4 a0_p.hashes.length c4,.bool a0_p.split] 89,blk q7 [.int .i64 v6] 3,drow 212 (rowV q9 v8.length) v8]) ?_ ?_
  ·rintro ⟨v6,v8⟩ ⟨q7,q9⟩ H
   try dsimp only [Ex.then] at H
   refine Cont.conseq (fr':=[(2,_)]) ?_ ⟨rfl,trivial⟩ (fun _ s=>s)
   refine id (hK5 _ _ ?_)
   refine T.seq fun K7 hK7=>T.region (rM rfl (rA rfl (rA rfl (RS.nil (hK7 _ _ ?_)))))
   obtain rfl:=sj H
   refine T.rt (Cont.ret2 rfl rfl rfl fun w' s=>?_)
   exact ⟨q9,rfl,s.pick [2] (by decide) rfl⟩
  ·intro z5 hz5 HX5 hJ5
   refine T.block ?_
   refine T.loopA (γ:=(Option Nat × Nat) × Nat) hz5 [(1,_)] (fun (l10,v12) (q11,q13)=>[(2,rowV q11 l10.length),(4,.pointer (some ⟨q13,0,none⟩))]) (fun (l10,v12) (q11,q13)=>Sat w [blk b1 [.int .i64 a0_p.id,.int .i64 a0_p.players,.int .i64 a0_p.delay,.int .i64 a0_p.turn,.int .i64 a0_p.said,.slice p0 a0_p.mine.length c0,.slice p1 a0_p.inputs.length c1,.slice p2 a0_p.has.length c2,.slice p3 a0_p.acked.length c3,.slice p4 a0_p.hashes.length c4,.bool a0_p.split] 89,blk q13 [.int .i64 v12] 3,drow 212 (rowV q11 l10.length) l10]) ((none,0),b4) ⟨rfl,trivial⟩ ⟨rfl,rfl,trivial⟩ (fun w s=>(s.nilRowG (α:=Nte) 212).pick [0,1,2] (by decide) rfl) ?_
   rintro ⟨l10,v12⟩ ⟨q11,q13⟩ y14 H hd5 KL5 hL5
   try dsimp only [Ex.then] at H
   refine cq [(2,_),(4,_),(1,_)] ?_
   refine T.seq fun K8 hK8=>T.seq fun K9 hK9=>T.region (rq (Qt.ldB 1 ty3 rfl rfl rfl) (rp (Pu.fieldAddr fd89_1 rfl) (rq (Qt.ldB 0 ty3 rfl rfl rfl) (rp (Pu.bin rfl rfl rfl) (RS.nil (hK9 _ _ ?_))))))
   refine T.condP rfl (fun hc15=>?_) (fun hc15=>?_)
   ·have H:=ifT hc15 H
    refine T.skip (hK8 _ _ (cq [(1,_),(2,_),(4,_)] ?_))
    refine T.seq fun K10 hK10=>T.block (T.seq fun K11 hK11=>T.seq fun K12 hK12=>T.region (rq (Qt.ldB 1 ty3 rfl rfl rfl) (rp (Pu.fieldAddr fd89_0 rfl) (rq (Qt.ldB 0 ty3 rfl rfl rfl) (rp (Pu.bin rfl rfl rfl) (RS.nil (hK12 _ _ ?_)))))))
    refine T.condP rfl (fun hc16=>?_) (fun hc16=>?_)
    ·have H:=ifT hc16 H
     refine T.xt (hK10 _ _ (cq [(1,_),(2,_),(4,_)] ?_))
     refine T.seq fun K13 hK13=>T.seq fun K14 hK14=>T.region (rq (Qt.ldB 1 ty3 rfl rfl rfl) (RS.nil (hK14 _ _ ?_)))
     refine T.region (RS.solid (Sd.alloc zr3 rfl) rfl rfl fun b17=>RS.solid (Sd.stB (cs':=[_]) 3 ty3 rfl rfl rfl rfl rfl rfl rfl rfl) rfl rfl fun _=>RS.nil (hK13 _ _ ?_))
     refine T.region (rq (Qt.ldB 3 ty3 rfl rfl rfl) ?_)
     obtain ⟨g18,H⟩:=gdE H
     refine rp (Pu.addS rfl rfl g18) (RS.solid (Sd.stB (cs':=[_]) 3 ty3 rfl rfl rfl rfl rfl rfl rfl rfl) rfl rfl fun _=>RS.nil (hL5 _ _ (l10,(v12 + 1)) (q11,b17) H ⟨rfl,trivial⟩ ⟨rfl,rfl,trivial⟩ (fun w s=>s.pick [0,3,2] (by decide) rfl)))
    ·have H:=ifF hc16 H
     refine T.skip (hK11 _ _ (cq [(1,_),(2,_),(4,_)] ?_))
     refine T.seq fun K15 hK15=>?_
     refine T.drawn (fun _=>True) [(0,.pu),(1,.rd),(2,.rd),(3,.pu),(4,.pu),(5,.rd),(6,.rd),(7,.pu),(8,.pu),(9,.rd),(10,.pu),(11,.so),(12,.br)] mixed (ClE.sat _ _) (by kernel_rfl) ?_
     refine dp rfl (Pu.fieldAddr fd89_0 rfl) (dq rfl (Qt.ldB 0 ty3 rfl rfl rfl) (dq rfl (Qt.ldB 1 ty3 rfl rfl rfl) (dp rfl (Pu.build (cells:=[_,_,_]) st210 rfl rfl) (dp rfl (Pu.fieldAddr fd89_7 rfl) (dq rfl (Qt.ldB 0 ty35 rfl rfl rfl) (dq rfl (Qt.ldB 1 ty3 rfl rfl rfl) ?_))))))
     obtain ⟨g19,H⟩:=gdE H
     refine dp rfl (Pu.subS rfl rfl g19) ?_
     obtain ⟨g20,H⟩:=gdE H
     obtain ⟨bl21,ol22,rfl⟩:=R_ptr h2 (ne_of_pos (pos_of g20))
     refine dp rfl (Pu.indexSl sl35 rfl rfl g20) (dq rfl (Qt.ld0 (α:=Int) (Rd.base h2) ty3 rfl rfl g20 (by rintro _ _ rfl; rfl)) (dp rfl (Pu.build (cells:=[_,_,_,_,_,_,_,_]) st212 rfl rfl) (RD.solid rfl (.inl rfl) rfl rfl (Sd.alloc zr212 rfl) (fun _=>ClE.sat _ _) (fun _ _ _=>trivial) (fun _ _ _ s=>s.drop1) fun b23=>?_)))
     refine RD.solid rfl (.inr rfl) rfl rfl (Sd.stB (cs':=[_,_,_,_,_,_,_,_]) 3 ty212 rfl rfl rfl rfl rfl rfl rfl rfl) (fun _=>ClE.sat _ _) (fun _ _ _=>trivial) (fun h=>nomatch h) fun _=>?_
     refine RD.nil (hK15 _ _ (cq [(1,_),(2,_),(4,_),(5,_)] ?_))
     refine T.seq fun K16 hK16=>T.seq fun K17 hK17=>T.region (rp (Pu.fieldAddr fd89_9 rfl) (rq (Qt.ldB 0 ty87 rfl rfl rfl) (rp (Pu.lenSl sl87 rfl) (rA rfl (RS.nil (hK17 _ _ (cq [(1,_),(2,_),(4,_),(5,_),(6,_)] ?_)))))))
     refine T.seq fun K18 hK18=>T.region (rM rfl (rp (Pu.bin rfl rfl rfl) (RS.nil (hK18 _ _ ?_))))
     refine T.joinE (σ:=Int × UInt64) (γ:=Unit) H (fun s=>s) [(1,_),(2,_),(4,_),(5,_)] ⟨rfl,rfl,rfl,rfl,trivial⟩ (fun (v25,v26) _=>[]) (fun (v25,v26) _=>Sat w [blk b1 [.int .i64 a0_p.id,.int .i64 a0_p.players,.int .i64 a0_p.delay,.int .i64 a0_p.turn,.int .i64 a0_p.said,.slice p0 a0_p.mine.length c0,.slice p1 a0_p.inputs.length c1,.slice (some ⟨bl21,ol22,none⟩) a0_p.has.length c2,.slice p3 a0_p.acked.length c3,.slice p4 a0_p.hashes.length c4,.bool a0_p.split] 89,blk q13 [.int .i64 v12] 3,drow 212 (rowV q11 l10.length) l10,blk b23 [.int .i64 a0_p.id,.int .i64 v12,.int .i64 (-1),.int .i64 0,.slice none 0 0,.int .i64 v25,.int .u64 (v26.toNat:Int),.int .i64 (gi a0_p.has (v12 - 1))] 212]) ?_ ?_
     ·rintro ⟨v25,v26⟩ ⟨⟩ H
      try dsimp only [Ex.then] at H
      refine Cont.conseq (fr':=[(1,_),(2,_),(4,_),(5,_)]) ?_ ⟨rfl,rfl,rfl,rfl,trivial⟩ (fun _ s=>s)
      refine id (hK16 _ _ ?_)
      refine T.seq fun K19 hK19=>T.seq fun K20 hK20=>T.region (rp (Pu.fieldAddr fd89_5 rfl) (rq (Qt.ldB 0 ty86 rfl rfl rfl) (rp (Pu.makeFunc rfl) ?_)))
      obtain ⟨x27,hx27,H⟩:=bindE H
      refine rq (Qt.call (vs:=[.slice p0 a0_p.mine.length c0,.func (.func 159) #[] #[.pointer (some ⟨b1,0,none⟩),.pointer (some ⟨q13,0,none⟩)]]) ent158 rfl fun w s=>slices_IndexFuncI_walk a0_p.mine (fun y0=>peer_Notes_1 y0 a0_p v12) w ((Rd.base h0) w s) (⟨159,_,rfl,ent159,fun y0 c r w' ⟨_,hc⟩ he hr=>by subst hc; exact peer_Notes_1_walk y0 a0_p v12 w' (blk_ext he (blk_of s (k:=0) rfl)) (Enc.mono he.hp ((Rd.base h0) w s)) (Enc.mono he.hp ((Rd.base h1) w s)) (Enc.mono he.hp ((Rd.base h2) w s)) (Enc.mono he.hp ((Rd.base h3) w s)) (Enc.mono he.hp ((Rd.base h4) w s)) (blk_ext he (blk_of s (k:=1) rfl)) hr⟩) hx27) (rA rfl (RS.nil (hK20 _ _ (cq [(1,_),(2,_),(4,_),(5,_),(7,_)] ?_))))
      refine T.seq fun K21 hK21=>T.region (rM rfl (rp (Pu.bin rfl rfl rfl) (RS.nil (hK21 _ _ ?_))))
      refine T.joinE (σ:=Int × Int × List Cmd) (γ:=(Option Nat × Nat)) H (fun s=>s) [(1,_),(2,_),(4,_),(5,_)] ⟨rfl,rfl,rfl,rfl,trivial⟩ (fun (v29,v30,v31) q32=>[]) (fun (v29,v30,v31) q32=>Sat w [blk b1 [.int .i64 a0_p.id,.int .i64 a0_p.players,.int .i64 a0_p.delay,.int .i64 a0_p.turn,.int .i64 a0_p.said,.slice p0 a0_p.mine.length c0,.slice p1 a0_p.inputs.length c1,.slice (some ⟨bl21,ol22,none⟩) a0_p.has.length c2,.slice p3 a0_p.acked.length c3,.slice p4 a0_p.hashes.length c4,.bool a0_p.split] 89,blk q13 [.int .i64 v12] 3,drow 212 (rowV q11 l10.length) l10,blk b23 [.int .i64 a0_p.id,.int .i64 v12,.int .i64 v29,.int .i64 v30,rowV q32 v31.length,.int .i64 v25,.int .u64 (v26.toNat:Int),.int .i64 (gi a0_p.has (v12 - 1))] 212,drow 37 (rowV q32 v31.length) v31]) ?_ ?_
      ·rintro ⟨v29,v30,v31⟩ q32 H
       try dsimp only [Ex.then] at H
       refine Cont.conseq (fr':=[(1,_),(2,_),(4,_),(5,_)]) ?_ ⟨rfl,rfl,rfl,rfl,trivial⟩ (fun _ s=>s)
       refine id (hK19 _ _ ?_)
       refine T.region (rM rfl (rq (Qt.ldBA (us:=[_,_,_,_,_,_,_,_]) 3 ty212 rfl rfl rfl rfl) (RS.solid (Sd.litS (cs:=[_,_,_,_,_,_,_,_]) sl83 zr212 rfl rfl rfl rfl rfl) rfl rfl fun b33=>?_)))
       obtain ⟨g35,H⟩:=gdE H
       refine RS.solid (Sd.pre (fun w s=>(Sat.starAt 4 6 (Sat.starAt 4 7 ((s.noStars).noStars) rfl rfl (by decide)) rfl rfl (by decide))) (Sd.appL (α:=Nte) 2 5 4 ([(⟨a0_p.id,v12,(⟨v29,v30,v31⟩:Inp),v25,v26,(gi a0_p.has (v12 - 1))⟩:Nte)]:List Nte) rfl rfl rfl (DRF.cons' (α:=Nte) (x:=(⟨a0_p.id,v12,(⟨v29,v30,v31⟩:Inp),v25,v26,(gi a0_p.has (v12 - 1))⟩:Nte)) (fun _ h=>⟨_,rfl,h⟩) DRF.nil') rfl sl83 zr212 rfl rfl rfl rfl g35 (by decide))) rfl rfl fun q34=>rA rfl (RS.nil (hK10 _ _ (cq [(1,_),(2,_),(4,_)] ?_)))
       refine T.seq fun K22 hK22=>T.seq fun K23 hK23=>T.region (rq (Qt.ldB 1 ty3 rfl rfl rfl) (RS.nil (hK23 _ _ ?_)))
       refine T.region (RS.solid (Sd.alloc zr3 rfl) rfl rfl fun b36=>RS.solid (Sd.stB (cs':=[_]) 8 ty3 rfl rfl rfl rfl rfl rfl rfl rfl) rfl rfl fun _=>RS.nil (hK22 _ _ ?_))
       refine T.region (rq (Qt.ldB 8 ty3 rfl rfl rfl) ?_)
       obtain ⟨g37,H⟩:=gdE H
       refine rp (Pu.addS rfl rfl g37) (RS.solid (Sd.stB (cs':=[_]) 8 ty3 rfl rfl rfl rfl rfl rfl rfl rfl) rfl rfl fun _=>RS.nil (hL5 _ _ ((l10 ++ ([(⟨a0_p.id,v12,(⟨v29,v30,v31⟩:Inp),v25,v26,(gi a0_p.has (v12 - 1))⟩:Nte)]:List Nte)),(v12 + 1)) (q34,b36) H ⟨rfl,trivial⟩ ⟨rfl,rfl,trivial⟩ (fun w s=>s.pick [0,8,2] (by decide) rfl)))
      ·intro z28 H HX28 hJ28
       refine T.condP rfl (fun hc38=>?_) (fun hc38=>?_)
       ·have H:=ifT hc38 H
        refine T.region (rp (Pu.fieldAddr fd89_5 rfl) (rq (Qt.ldB 0 ty86 rfl rfl rfl) (rM rfl ?_)))
        obtain ⟨g39,H⟩:=gdE H
        obtain ⟨bl40,ol41,rfl⟩:=R_ptr h0 (ne_of_pos (pos_of g39))
        refine rp (Pu.indexSl sl86 rfl rfl g39) ?_
        obtain ⟨c42,hc43,ha44⟩:=R_el (α:=Inp) h0 g39
        obtain ⟨u45,rfl,hu45⟩:=hc43
        obtain ⟨p46,cc47,rfl⟩:=R_form hu45
        refine rq (Qt.ldZ (cs:=[_,_,_]) ty210 rfl ha44 Held.base rfl) ?_
        obtain ⟨x48,hx48,H⟩:=bindE H
        refine RS.solid (Sd.callN (vs:=[.agg #[.int .i64 (gi a0_p.mine x27).turn,.int .i64 (gi a0_p.mine x27).player,.slice p46 ((gi a0_p.mine x27).commands).length cc47]]) ent157 rfl (fun w s=>turns_Own_walk (gi a0_p.mine x27) w ((Rd.base hu45) w s) hx48)) rfl rfl fun q49=>rp (Pu.fieldAddr fd212_2 rfl) (RS.solid (Sd.stB (cs':=[_,_,_,_,_,_,_,_]) 3 ty210 rfl rfl rfl rfl rfl rfl rfl rfl) rfl rfl fun _=>?_)
        obtain rfl:=sj H
        refine RS.nil (hJ28 _ _ (x48.turn,x48.player,x48.commands) q49 HX28 ⟨rfl,rfl,rfl,rfl,trivial⟩ trivial (fun w s=>s))
       ·have H:=ifF hc38 H
        obtain rfl:=sj H
        refine T.skip (hJ28 _ _ ((-1),0,[]) (none,0) HX28 ⟨rfl,rfl,rfl,rfl,trivial⟩ trivial (fun w s=>(s.nilRowG (α:=Cmd) 37).pick [0,1,2,3,4] (by decide) rfl))
     ·intro z24 H HX24 hJ24
      refine T.condP rfl (fun hc50=>?_) (fun hc50=>?_)
      ·have H:=ifT hc50 H
       refine T.drawnS [0,1,2] [(0,.pu),(1,.rd),(2,.pu),(3,.pu),(4,.wk),(5,.pu),(6,.pu),(7,.pu),(8,.wk),(9,.pu),(10,.br),(11,.pu),(12,.br)] mixed (by kernel_rfl) rfl ?_
       refine RD.p (fun w s=>s.pick [0,1,2] (by decide) rfl) rfl (Pu.fieldAddr fd89_3 rfl) rfl rfl (RD.q (fun w s=>s.pick [0,1,2] (by decide) rfl) rfl (Qt.ldB 0 ty3 rfl rfl rfl) rfl rfl ?_)
       obtain ⟨g51,H⟩:=gdE H
       refine RD.p (fun w s=>s.pick [0,1,2] (by decide) rfl) rfl (Pu.subS rfl rfl g51) rfl rfl (RD.p (fun w s=>s.pick [0,1,2] (by decide) rfl) rfl (Pu.fieldAddr fd89_9 rfl) rfl rfl ?_)
       refine RD.w (fun w s=>s.pick [0,1,2] (by decide) rfl) rfl (Qt.ldB 0 ty87 rfl rfl rfl) rfl rfl ?_
       refine RD.p (fun w s=>s.pick [0,1,2] (by decide) rfl) rfl (Pu.move rfl) rfl rfl ?_
       obtain ⟨g52,H⟩:=gdE H
       refine RD.p (fun w s=>s.pick [0,1,2] (by decide) rfl) rfl (Pu.subS rfl rfl g52) rfl rfl ?_
       obtain ⟨g53,H⟩:=gdE H
       obtain ⟨bl54,ol55,rfl⟩:=R_ptr h4 (ne_of_pos (pos_of g53))
       refine RD.p (fun w s=>s.pick [0,1,2] (by decide) rfl) rfl (Pu.indexSl sl87 rfl rfl g53) rfl rfl ?_
       refine RD.w (fun w s=>s.pick [0,1,2] (by decide) rfl) rfl (Qt.ld0 (α:=UInt64) (Rd.base h4) ty112 rfl rfl g53 (by rintro _ _ rfl; rfl)) rfl rfl ?_
       refine RD.p (fun w s=>s.pick [0,1,2] (by decide) rfl) rfl (Pu.fieldAddr fd212_3 rfl) rfl rfl (RD.solid rfl (.inr rfl) rfl rfl (Sd.stB (cs':=[_,_,_,_,_,_,_,_]) 3 ty3 rfl rfl rfl rfl rfl rfl rfl rfl) (fun _=>ClE.sat _ _) (fun _ w s=>s.pick [0,1,2] (by decide) rfl) (fun h=>nomatch h) fun _=>?_)
       refine RD.p (fun w s=>s.pick [0,1,2] (by decide) rfl) rfl (Pu.fieldAddr fd212_4 rfl) rfl rfl (RD.solid rfl (.inr rfl) rfl rfl (Sd.stB (cs':=[_,_,_,_,_,_,_,_]) 3 ty112 rfl rfl rfl rfl rfl rfl rfl rfl) (fun _=>ClE.sat _ _) (fun _ w s=>s.pick [0,1,2] (by decide) rfl) (fun h=>nomatch h) fun _=>?_)
       obtain rfl:=sj H
       refine RD.nil (hJ24 _ _ ((a0_p.turn - 1),(gi a0_p.hashes ((a0_p.hashes.length:Int) - 1))) () HX24 ⟨rfl,rfl,rfl,rfl,trivial⟩ trivial (fun w s=>s))
      ·have H:=ifF hc50 H
       obtain rfl:=sj H
       refine T.skip (hJ24 _ _ ((-1),(0:UInt64)) () HX24 ⟨rfl,rfl,rfl,rfl,trivial⟩ trivial (fun w s=>s))
   ·have H:=ifF hc15 H
    obtain rfl:=hd5 _ H
    refine T.xt (hJ5 _ _ (v12,l10) (q13,q11) HX5 trivial ⟨rfl,trivial⟩ (fun w s=>s))
end Go.Proofs.YtmngdgclldkcfaaGreat
set_option linter.unusedVariables false
set_option linter.unusedSimpArgs false
set_option maxRecDepth 20000
set_option maxHeartbeats 4000000
namespace Go.Proofs.YtmngdgclldkcfaaGreat
open Go.Vg
open Enc (R)
theorem ent233:Ent Tryz.prog 233:=⟨_,_,Tryz.func233,by kernel_rfl,rfl⟩
theorem ent234:Ent Tryz.prog 234:=⟨_,_,Tryz.func234,by kernel_rfl,rfl⟩
theorem ent235:Ent Tryz.prog 235:=⟨_,_,Tryz.func235,by kernel_rfl,rfl⟩
theorem ent278:Ent Tryz.prog 278:=⟨_,_,Tryz.func278,by kernel_rfl,rfl⟩
theorem ent279:Ent Tryz.prog 279:=⟨_,_,Tryz.func279,by kernel_rfl,rfl⟩
theorem ent280:Ent Tryz.prog 280:=⟨_,_,Tryz.func280,by kernel_rfl,rfl⟩
theorem ent281:Ent Tryz.prog 281:=⟨_,_,Tryz.func281,by kernel_rfl,rfl⟩
theorem fd212_0:fdOff Tryz.prog 212 0 = some 0:=by kernel_rfl
theorem fd212_1:fdOff Tryz.prog 212 1 = some 1:=by kernel_rfl
theorem fd212_5:fdOff Tryz.prog 212 5 = some 7:=by kernel_rfl
theorem fd89_10:fdOff Tryz.prog 89 10 = some 10:=by kernel_rfl
theorem peer_acked_1_walk (a0_i:Inp) (cv0:Int) (w:World) {v0:Value} {p1g:Nat} (hb1:blk p1g [.int .i64 cv0] 3 (hpOf w)) {r:Bool} (H:peer_acked_1 a0_i cv0 = some r):Calls Tryz.prog 281 #[.agg #[.int .i64 a0_i.turn,.int .i64 a0_i.player,v0],.pointer (some ⟨p1g,0,none⟩)] w fun e w'=>e = .returned (.bool r)∧Ext w w':=by
 unfold peer_acked_1 at H
 refine T.enter (args:=[_,_]) (S:=Sat w []) Tryz.func281 rfl rfl (Sat.start w) ?_
 refine T.seq fun K1 hK1=>T.region (RS.solid (Sd.box (cs:=[_,_,_]) rfl rfl) rfl rfl fun b1=>rA rfl (RS.nil (hK1 _ _ ?_)))
 refine T.seq fun K2 hK2=>T.region (rp (Pu.fieldAddr fd210_0 rfl) (rq (Qt.ldB 0 ty3 rfl rfl rfl) (rq (Qt.ldX ty3 rfl hb1 (fun w s=>s.ext) rfl) (rp (Pu.bin rfl rfl rfl) (rA rfl (RS.nil (hK2 _ _ (cq [(3,_)] ?_))))))))
 obtain rfl:=sj H
 refine T.rt (Cont.ret1 rfl rfl fun w' s=>?_)
 exact ⟨rfl,s.ext⟩
theorem peer_acked_walk {w0:World} {F:Ch} (g0:Nat) (a0_p:Per) (a1_from:Int) (a2_have:Int) {r:Per} (H:peer_acked a0_p a1_from a2_have = some r) (w:World) (s:Sat w0 [Per_ch g0 a0_p,F] w):Calls Tryz.prog 234 #[.pointer (some ⟨g0,0,none⟩),.int .i64 a1_from,.int .i64 a2_have] w fun e w'=>e = .returned (.tuple #[])∧Sat w0 [Per_ch g0 r,F] w':=by
 unfold peer_acked at H
 refine T.enter (args:=[_,_,_]) (S:=Sat w0 [Per_ch g0 a0_p,F]) Tryz.func234 rfl rfl (s) ?_
 refine T.ex (S':=fun q:(Option Nat × Nat) × (Option Nat × Nat) × (Option Nat × Nat) × (Option Nat × Nat) × (Option Nat × Nat)=>Sat w0 [blk g0 [.int .i64 a0_p.id,.int .i64 a0_p.players,.int .i64 a0_p.delay,.int .i64 a0_p.turn,.int .i64 a0_p.said,rowV q.1 a0_p.mine.length,rowV q.2.1 a0_p.inputs.length,rowV q.2.2.1 a0_p.has.length,rowV q.2.2.2.1 a0_p.acked.length,rowV q.2.2.2.2 a0_p.hashes.length,.bool a0_p.split] 89,F,drow 210 (rowV q.1 a0_p.mine.length) a0_p.mine,drow 210 (rowV q.2.1 a0_p.inputs.length) a0_p.inputs,row nilH 3 (rowV q.2.2.1 a0_p.has.length) a0_p.has,row nilH 3 (rowV q.2.2.2.1 a0_p.acked.length) a0_p.acked,row nilH 112 (rowV q.2.2.2.2 a0_p.hashes.length) a0_p.hashes]) (fun w s=>Per_open 0 rfl s) ?_
 rintro ⟨q1,q2,q3,q4,q5⟩
 show T _ _ _ _ (Sat w0 [blk g0 [.int .i64 a0_p.id,.int .i64 a0_p.players,.int .i64 a0_p.delay,.int .i64 a0_p.turn,.int .i64 a0_p.said,rowV q1 a0_p.mine.length,rowV q2 a0_p.inputs.length,rowV q3 a0_p.has.length,rowV q4 a0_p.acked.length,rowV q5 a0_p.hashes.length,.bool a0_p.split] 89,F,drow 210 (rowV q1 a0_p.mine.length) a0_p.mine,drow 210 (rowV q2 a0_p.inputs.length) a0_p.inputs,row nilH 3 (rowV q3 a0_p.has.length) a0_p.has,row nilH 3 (rowV q4 a0_p.acked.length) a0_p.acked,row nilH 112 (rowV q5 a0_p.hashes.length) a0_p.hashes]) _
 refine T.seq fun K1 hK1=>T.seq fun K2 hK2=>?_
 try dsimp only [List.set,List.cons_append,List.nil_append]
 refine T.region (rM rfl (rM rfl (rp (Pu.nilCheck rfl) (rp (Pu.fieldAddr fd89_8 rfl) (rq (Qt.ldB 0 ty35 rfl rfl rfl) (rM rfl ?_))))))
 obtain ⟨g6,H⟩:=gdE H
 refine rp (Pu.subS rfl rfl g6) ?_
 obtain ⟨g7,H⟩:=gdE H
 refine RS.know (p:=∃ g cap,q4 = (some g,cap)) (fun w s=>(s.row_some (k:=5) rfl (pos_of g7))) ?_
 rintro ⟨gg8,cc9,rfl⟩
 refine rp (Pu.indexSl sl35 rfl rfl g7) (rq (Qt.ld0 (α:=Int) (Rd.ofRowN 5 rfl) ty3 rfl rfl g7 (by rintro _ _ rfl; rfl)) (rp (Pu.bin rfl rfl rfl) (rM rfl ?_)))
 refine RS.joinV 7 24 (.bool (decide ((a2_have ≤ (gi a0_p.acked (a1_from - 1))) ∨ (a0_p.said < a2_have)))) [(0,_),(1,_),(2,_)] ⟨rfl,rfl,rfl,trivial⟩ ?_ ?_
 ·refine RS.nil (hK2 _ _ ?_)
  refine T.condP rfl (fun hc12=>?_) (fun hc12=>?_)
  ·have H:=ifT hc12 H
   obtain rfl:=sj H
   try dsimp only [List.set,List.cons_append,List.nil_append]
   refine T.rt (Cont.ret0 rfl fun w' s=>?_)
   exact ⟨rfl,Per_shut (x:=a0_p) ⟨q1,q2,q3,(some gg8,cc9),q5⟩ (s.pick [1,0,2,3,4,5,6] (by decide) rfl)⟩
  ·have H:=ifF hc12 H
   refine T.skip (hK1 _ _ ?_)
   refine T.seq fun K3 hK3=>?_
   try dsimp only [List.set,List.cons_append,List.nil_append]
   refine T.region (rM rfl (rp (Pu.nilCheck rfl) (rp (Pu.fieldAddr fd89_8 rfl) (rq (Qt.ldB 0 ty35 rfl rfl rfl) (rM rfl ?_)))))
   obtain ⟨g13,H⟩:=gdE H
   refine rp (Pu.subS rfl rfl g13) (rM rfl ?_)
   obtain ⟨g14,H⟩:=gdE H
   refine rp (Pu.indexSl sl35 rfl rfl g14) (RS.solid (Sd.st0 (α:=Int) 5 a2_have rfl ty3 rfl rfl rfl g14 rfl rfl (by decide) rfl (by rintro _ _ rfl; rfl)) rfl rfl fun _=>RS.nil (hK3 _ _ (cq [(0,_)] ?_)))
   refine T.seq fun K4 hK4=>?_
   try dsimp only [List.set,List.cons_append,List.nil_append]
   refine T.region (rM rfl (rp (Pu.nilCheck rfl) (rp (Pu.fieldAddr fd89_8 rfl) (rq (Qt.ldB 0 ty35 rfl rfl rfl) ?_))))
   obtain ⟨x15,hx15,H⟩:=bindE H
   refine rq (Qt.call (vs:=[rowV (some gg8,cc9) a0_p.acked.length]) ent99 rfl fun w s=>slices_Min_walk (si a0_p.acked (a1_from - 1) a2_have) w ((Rd.ofRowN 5 rfl) w s) hx15) (RS.solid (Sd.alloc zr3 rfl) rfl rfl fun b16=>RS.solid (Sd.stB (cs':=[_]) 7 ty3 rfl rfl rfl rfl rfl rfl rfl rfl) rfl rfl fun _=>RS.nil (hK4 _ _ (cq [(0,_),(6,_)] ?_)))
   try dsimp only [List.set,List.cons_append,List.nil_append]
   refine T.region (rM rfl (rM rfl (rp (Pu.nilCheck rfl) (rp (Pu.fieldAddr fd89_5 rfl) (rq (Qt.ldB 0 ty86 rfl rfl rfl) (rp (Pu.makeFunc rfl) ?_))))))
   obtain ⟨x17,hx17,H⟩:=bindE H
   refine RS.solid (Sd.callM 2 ent280 rfl rfl (fun w s=>slices_DeleteFuncI_walk a0_p.mine (fun y0=>peer_acked_1 y0 x15) rfl ⟨281,_,rfl,ent281,fun y0 c r w' ⟨_,hc⟩ hs hr=>by subst hc; exact peer_acked_1_walk y0 x15 w' (blk_of (Sat.ofRest (j:=7) hs rfl (by decide)) (k:=0) rfl) hr⟩ hx17 w s)) rfl rfl fun q18=>rp (Pu.nilCheck rfl) (rp (Pu.fieldAddr fd89_5 rfl) (RS.solid (Sd.stB (cs':=[_,_,_,_,_,_,_,_,_,_,_]) 0 ty86 rfl rfl rfl rfl rfl rfl rfl rfl) rfl rfl fun _=>?_))
   obtain rfl:=sj H
   refine RS.nil (Cont.end0 rfl fun w' s=>?_)
   exact ⟨rfl,Per_shut (x:=(⟨a0_p.id,a0_p.players,a0_p.delay,a0_p.turn,a0_p.said,x17,a0_p.inputs,a0_p.has,(si a0_p.acked (a1_from - 1) a2_have),a0_p.hashes,a0_p.split⟩:Per)) ⟨q18,q2,q3,(some gg8,cc9),q5⟩ ((Sat.cellB 0 (Sat.relen (q:=(some gg8,cc9)) (m:=a0_p.acked.length) 5 s rfl) rfl (congrArg (fun z=>[.int .i64 a0_p.id,.int .i64 a0_p.players,.int .i64 a0_p.delay,.int .i64 a0_p.turn,.int .i64 a0_p.said,rowV q18 x17.length,rowV q2 a0_p.inputs.length,rowV q3 a0_p.has.length,rowV (some gg8,cc9) z,rowV q5 a0_p.hashes.length,.bool a0_p.split]) (s.row_fits (q:=(some gg8,cc9)) (m:=a0_p.acked.length) (k:=5) rfl).1)).pick [1,0,2,3,4,5,6] (by decide) rfl)⟩
 ·intro hJ11
  refine RS.splitP 17 rfl (fun hc10=>?_) (fun hc10=>?_)
  ·refine ro (ro (ro (ro (ro (ro (rp (Pu.pickT rfl rfl) ?_))))))
   exact hJ11 _ _ ⟨dOrT hc10,rfl,rfl,rfl,trivial⟩ (fun w s=>s)
  ·refine rM rfl (rM rfl (rp (Pu.nilCheck rfl) (rp (Pu.fieldAddr fd89_4 rfl) (rq (Qt.ldB 0 ty3 rfl rfl rfl) (rp (Pu.bin rfl rfl rfl) (rp (Pu.pickF rfl rfl) ?_))))))
   exact hJ11 _ _ ⟨dOrF hc10,rfl,rfl,rfl,trivial⟩ (fun w s=>s)
theorem peer_player_walk (a0_n:Int) (w:World) {r:Bool} (H:peer_player a0_n = some r):Calls Tryz.prog 278 #[.int .i64 a0_n] w fun e w'=>e = .returned (.bool r)∧Ext w w':=by
 unfold peer_player at H
 refine T.enter (args:=[_]) (S:=Sat w []) Tryz.func278 rfl rfl (Sat.start w) ?_
 refine T.seq fun K1 hK1=>T.region (rA rfl (RS.nil (hK1 _ _ ?_)))
 refine T.seq fun K2 hK2=>T.region (rM rfl (rp (Pu.bin rfl rfl rfl) (rM rfl ?_)))
 refine RS.joinV 3 8 (.bool (decide ((1 ≤ a0_n)∧(a0_n ≤ 8)))) [(2,_)] ⟨rfl,trivial⟩ ?_ ?_
 ·refine rA rfl (RS.nil (hK2 _ _ ?_))
  obtain rfl:=sj H
  refine T.rt (Cont.ret1 rfl rfl fun w' s=>?_)
  exact ⟨rfl,s.ext⟩
 ·intro hJ2
  refine RS.splitP 5 rfl (fun hc1=>?_) (fun hc1=>?_)
  ·refine rM rfl (rp (Pu.bin rfl rfl rfl) (rp (Pu.pickT rfl rfl) ?_))
   exact hJ2 _ _ ⟨dAndT hc1,rfl,trivial⟩ (fun w s=>s)
  ·refine ro (ro (rp (Pu.pickF rfl rfl) ?_))
   exact hJ2 _ _ ⟨dAndF hc1,rfl,trivial⟩ (fun w s=>s)
theorem peer_turn_walk (a0_n:Int) (w:World) {r:Bool} (H:peer_turn a0_n = some r):Calls Tryz.prog 279 #[.int .i64 a0_n] w fun e w'=>e = .returned (.bool r)∧Ext w w':=by
 unfold peer_turn at H
 refine T.enter (args:=[_]) (S:=Sat w []) Tryz.func279 rfl rfl (Sat.start w) ?_
 refine T.seq fun K1 hK1=>T.region (rA rfl (RS.nil (hK1 _ _ ?_)))
 refine T.seq fun K2 hK2=>T.region (rM rfl (rp (Pu.bin rfl rfl rfl) (rM rfl ?_)))
 refine RS.joinV 3 8 (.bool (decide (((-1) ≤ a0_n)∧(a0_n ≤ 1099511627776)))) [(2,_)] ⟨rfl,trivial⟩ ?_ ?_
 ·refine rA rfl (RS.nil (hK2 _ _ ?_))
  obtain rfl:=sj H
  refine T.rt (Cont.ret1 rfl rfl fun w' s=>?_)
  exact ⟨rfl,s.ext⟩
 ·intro hJ2
  refine RS.splitP 5 rfl (fun hc1=>?_) (fun hc1=>?_)
  ·refine rM rfl (rp (Pu.bin rfl rfl rfl) (rp (Pu.pickT rfl rfl) ?_))
   exact hJ2 _ _ ⟨dAndT hc1,rfl,trivial⟩ (fun w s=>s)
  ·refine ro (ro (rp (Pu.pickF rfl rfl) ?_))
   exact hJ2 _ _ ⟨dAndF hc1,rfl,trivial⟩ (fun w s=>s)
theorem peer_MayNote_walk (a0_n:Nte) (w:World) {v0:Value} (h0:R (hpOf w) a0_n.input.commands [v0]) {r:Bool} (H:peer_MayNote a0_n = some r):Calls Tryz.prog 233 #[.agg #[.int .i64 a0_n.frm,.int .i64 a0_n.dst,.int .i64 a0_n.input.turn,.int .i64 a0_n.input.player,v0,.int .i64 a0_n.don,.int .u64 (a0_n.hash.toNat:Int),.int .i64 a0_n.hav]] w fun e w'=>e = .returned (.bool r)∧Ext w w':=by
 have hm0:=R_max h0
 obtain ⟨p0,c0,rfl⟩:=R_form h0
 unfold peer_MayNote at H
 refine T.enter (args:=[_]) (S:=Sat w []) Tryz.func233 rfl rfl (Sat.start w) ?_
 refine T.seq fun K1 hK1=>T.region (RS.solid (Sd.box (cs:=[_,_,_,_,_,_,_,_]) rfl rfl) rfl rfl fun b1=>rA rfl (RS.nil (hK1 _ _ ?_)))
 refine T.seq fun K2 hK2=>T.seq fun K3 hK3=>T.region (rp (Pu.fieldAddr fd212_0 rfl) (rq (Qt.ldB 0 ty3 rfl rfl rfl) ?_))
 obtain ⟨x2,hx2,H⟩:=bindE H
 refine rq (Qt.call (vs:=[.int .i64 a0_n.frm]) ent278 rfl fun w s=>peer_player_walk a0_n.frm w  hx2) (rp (Pu.not rfl) (rM rfl ?_))
 refine RS.joinB H 5 12 (fun b5=>.bool b5) [(1,_)] ⟨rfl,trivial⟩ ?_ ?_
 ·intro b5 H
  refine rM rfl ?_
  refine RS.joinV 6 19 (.bool (decide ((b5 = true) ∨ (a0_n.frm = a0_n.dst)))) [(1,_)] ⟨rfl,trivial⟩ ?_ ?_
  ·refine rM rfl ?_
   refine RS.joinB H 5 25 (fun b10=>.bool b10) [(1,_)] ⟨rfl,trivial⟩ ?_ ?_
   ·intro b10 H
    refine rM rfl ?_
    refine RS.joinB H 5 31 (fun b13=>.bool b13) [(1,_)] ⟨rfl,trivial⟩ ?_ ?_
    ·intro b13 H
     refine rM rfl ?_
     refine RS.joinV 9 41 (.bool (decide ((b13 = true) ∨ ((a0_n.don = (-1))∧(¬ (a0_n.hash.toNat:Int) = 0))))) [(1,_)] ⟨rfl,trivial⟩ ?_ ?_
     ·refine RS.nil (hK3 _ _ ?_)
      refine T.condP rfl (fun hc16=>?_) (fun hc16=>?_)
      ·have H:=ifT hc16 H
       refine T.seq fun K4 hK4=>T.region (rA rfl (RS.nil (hK4 _ _ ?_)))
       obtain rfl:=sj H
       refine T.rt (Cont.ret1 rfl rfl fun w' s=>?_)
       exact ⟨rfl,s.ext⟩
      ·have H:=ifF hc16 H
       refine T.skip (hK2 _ _ ?_)
       refine T.seq fun K5 hK5=>T.seq fun K6 hK6=>T.region (rp (Pu.fieldAddr fd212_2 rfl) (rp (Pu.fieldAddr fd210_0 rfl) (rq (Qt.ldB 0 ty3 rfl rfl rfl) (rp (Pu.bin rfl rfl rfl) (RS.nil (hK6 _ _ ?_))))))
       refine T.condP rfl (fun hc17=>?_) (fun hc17=>?_)
       ·have H:=ifT hc17 H
        refine cq [(1,_)] ?_
        refine T.seq fun K7 hK7=>T.region (rp (Pu.fieldAddr fd212_2 rfl) (rp (Pu.fieldAddr fd210_1 rfl) (rq (Qt.ldB 0 ty3 rfl rfl rfl) (rp (Pu.bin rfl rfl rfl) (rM rfl ?_)))))
        refine RS.joinV 6 56 (.bool (decide ((a0_n.input.player = 0)∧((a0_n.input.commands.length:Int) = 0)))) [] trivial ?_ ?_
        ·refine rA rfl (RS.nil (hK7 _ _ ?_))
         obtain rfl:=sj H
         refine T.rt (Cont.ret1 rfl rfl fun w' s=>?_)
         exact ⟨rfl,s.ext⟩
        ·intro hJ19
         refine RS.splitP 50 rfl (fun hc18=>?_) (fun hc18=>?_)
         ·refine rp (Pu.fieldAddr fd212_2 rfl) (rp (Pu.fieldAddr fd210_2 rfl) (rq (Qt.ldB 0 ty29 rfl rfl rfl) (rp (Pu.lenSl sl29 rfl) (rp (Pu.bin rfl rfl rfl) (rp (Pu.pickT rfl rfl) ?_)))))
          exact hJ19 _ _ ⟨dAndT hc18,trivial⟩ (fun w s=>s)
         ·refine ro (ro (ro (ro (ro (rp (Pu.pickF rfl rfl) ?_)))))
          exact hJ19 _ _ ⟨dAndF hc18,trivial⟩ (fun w s=>s)
       ·have H:=ifF hc17 H
        refine T.skip (hK5 _ _ (cq [(1,_)] ?_))
        refine T.seq fun K8 hK8=>T.region (rp (Pu.fieldAddr fd212_2 rfl) (rq (Qt.ldBA (us:=[_,_,_]) 0 ty210 rfl rfl rfl rfl) ?_))
        obtain ⟨x20,hx20,H⟩:=bindE H
        refine rq (Qt.call (vs:=[.agg #[.int .i64 a0_n.input.turn,.int .i64 a0_n.input.player,.slice p0 a0_n.input.commands.length c0]]) ent151 rfl fun w s=>turns_May_walk a0_n.input w ((Rd.base h0) w s) hx20) (rM rfl ?_)
        refine RS.joinV 7 67 (.bool (decide ((x20 = true)∧(a0_n.input.player = a0_n.frm)))) [] trivial ?_ ?_
        ·refine rA rfl (RS.nil (hK8 _ _ ?_))
         obtain rfl:=sj H
         refine T.rt (Cont.ret1 rfl rfl fun w' s=>?_)
         exact ⟨rfl,s.ext⟩
        ·intro hJ22
         refine RS.split 60 rfl (fun hc21=>?_) (fun hc21=>?_)
         ·refine rp (Pu.fieldAddr fd212_2 rfl) (rp (Pu.fieldAddr fd210_1 rfl) (rq (Qt.ldB 0 ty3 rfl rfl rfl) (rp (Pu.fieldAddr fd212_0 rfl) (rq (Qt.ldB 0 ty3 rfl rfl rfl) (rp (Pu.bin rfl rfl rfl) (rp (Pu.pickT rfl rfl) ?_))))))
          exact hJ22 _ _ ⟨dAndT hc21,trivial⟩ (fun w s=>s)
         ·refine ro (ro (ro (ro (ro (ro (rp (Pu.pickF rfl rfl) ?_))))))
          exact hJ22 _ _ ⟨dAndF (bne_of hc21),trivial⟩ (fun w s=>s)
     ·intro hJ15
      refine RS.split 32 rfl (fun hc14=>?_) (fun hc14=>?_)
      ·refine ro (ro (ro (ro (ro (ro (ro (ro (rp (Pu.pickT rfl rfl) ?_))))))))
       exact hJ15 _ _ ⟨dOrT hc14,rfl,trivial⟩ (fun w s=>s)
      ·refine rp (Pu.fieldAddr fd212_3 rfl) (rq (Qt.ldB 0 ty3 rfl rfl rfl) (rp (Pu.bin rfl rfl rfl) (rM rfl ?_)))
       refine RS.joinV 4 40 (.bool (decide ((a0_n.don = (-1))∧(¬ (a0_n.hash.toNat:Int) = 0)))) [(1,_),(31,_),(32,_),(33,_),(34,_),(35,_)] ⟨rfl,rfl,rfl,rfl,rfl,rfl,trivial⟩ ?_ ?_
       ·refine rp (Pu.pickF rfl rfl) ?_
        exact hJ15 _ _ ⟨dOrF (bne_of hc14),rfl,trivial⟩ (fun w s=>s)
       ·intro hJ24
        refine RS.splitP 36 rfl (fun hc23=>?_) (fun hc23=>?_)
        ·refine rp (Pu.fieldAddr fd212_4 rfl) (rq (Qt.ldB 0 ty112 rfl rfl rfl) (rp (Pu.bin rfl rfl rfl) (rp (Pu.pickT rfl rfl) ?_)))
         exact hJ24 _ _ ⟨dAndT hc23,rfl,rfl,rfl,rfl,rfl,rfl,trivial⟩ (fun w s=>s)
        ·refine ro (ro (ro (rp (Pu.pickF rfl rfl) ?_)))
         exact hJ24 _ _ ⟨dAndF hc23,rfl,rfl,rfl,rfl,rfl,rfl,trivial⟩ (fun w s=>s)
    ·intro z25 H hJ12
     refine RS.split 26 rfl (fun hc11=>?_) (fun hc11=>?_)
     ·have H:=ifT hc11 H
      refine ro (ro (ro (ro (rp (Pu.pickT rfl rfl) ?_))))
      obtain rfl:=sj H
      exact hJ12 _ _ ⟨rfl,rfl,trivial⟩ (fun w s=>s)
     ·have H:=ifB hc11 H
      refine rp (Pu.fieldAddr fd212_5 rfl) (rq (Qt.ldB 0 ty3 rfl rfl rfl) ?_)
      obtain ⟨x26,hx26,H⟩:=bindE H
      refine rq (Qt.call (vs:=[.int .i64 a0_n.hav]) ent279 rfl fun w s=>peer_turn_walk a0_n.hav w  hx26) (rp (Pu.not rfl) (rp (Pu.pickF rfl rfl) ?_))
      obtain rfl:=sj H
      exact hJ12 _ _ ⟨rfl,rfl,trivial⟩ (fun w s=>s)
   ·intro z27 H hJ9
    refine RS.splitP 20 rfl (fun hc8=>?_) (fun hc8=>?_)
    ·have H:=ifT hc8 H
     refine ro (ro (ro (ro (rp (Pu.pickT rfl rfl) ?_))))
     obtain rfl:=sj H
     exact hJ9 _ _ ⟨rfl,rfl,trivial⟩ (fun w s=>s)
    ·have H:=ifF hc8 H
     refine rp (Pu.fieldAddr fd212_3 rfl) (rq (Qt.ldB 0 ty3 rfl rfl rfl) ?_)
     obtain ⟨x28,hx28,H⟩:=bindE H
     refine rq (Qt.call (vs:=[.int .i64 a0_n.don]) ent279 rfl fun w s=>peer_turn_walk a0_n.don w  hx28) (rp (Pu.not rfl) (rp (Pu.pickF rfl rfl) ?_))
     obtain rfl:=sj H
     exact hJ9 _ _ ⟨rfl,rfl,trivial⟩ (fun w s=>s)
  ·intro hJ7
   refine RS.split 13 rfl (fun hc6=>?_) (fun hc6=>?_)
   ·refine ro (ro (ro (ro (ro (rp (Pu.pickT rfl rfl) ?_)))))
    exact hJ7 _ _ ⟨dOrT hc6,rfl,trivial⟩ (fun w s=>s)
   ·refine rp (Pu.fieldAddr fd212_0 rfl) (rq (Qt.ldB 0 ty3 rfl rfl rfl) (rp (Pu.fieldAddr fd212_1 rfl) (rq (Qt.ldB 0 ty3 rfl rfl rfl) (rp (Pu.bin rfl rfl rfl) (rp (Pu.pickF rfl rfl) ?_)))))
    exact hJ7 _ _ ⟨dOrF (bne_of hc6),rfl,trivial⟩ (fun w s=>s)
 ·intro z29 H hJ4
  refine RS.split 7 rfl (fun hc3=>?_) (fun hc3=>?_)
  ·have H:=ifT hc3 H
   refine ro (ro (ro (ro (rp (Pu.pickT rfl rfl) ?_))))
   obtain rfl:=sj H
   exact hJ4 _ _ ⟨rfl,rfl,trivial⟩ (fun w s=>s)
  ·have H:=ifB hc3 H
   refine rp (Pu.fieldAddr fd212_1 rfl) (rq (Qt.ldB 0 ty3 rfl rfl rfl) ?_)
   obtain ⟨x30,hx30,H⟩:=bindE H
   refine rq (Qt.call (vs:=[.int .i64 a0_n.dst]) ent278 rfl fun w s=>peer_player_walk a0_n.dst w  hx30) (rp (Pu.not rfl) (rp (Pu.pickF rfl rfl) ?_))
   obtain rfl:=sj H
   exact hJ4 _ _ ⟨rfl,rfl,trivial⟩ (fun w s=>s)
theorem peer_split_walk (a0_p:Per) (a1_done:Int) (a2_hash:UInt64) (w:World) {v0 v1 v2 v3 v4:Value} (h0:R (hpOf w) a0_p.mine [v0]) (h1:R (hpOf w) a0_p.inputs [v1]) (h2:R (hpOf w) a0_p.has [v2]) (h3:R (hpOf w) a0_p.acked [v3]) (h4:R (hpOf w) a0_p.hashes [v4]) {r:Bool} (H:peer_split a0_p a1_done a2_hash = some r):Calls Tryz.prog 235 #[.agg #[.int .i64 a0_p.id,.int .i64 a0_p.players,.int .i64 a0_p.delay,.int .i64 a0_p.turn,.int .i64 a0_p.said,v0,v1,v2,v3,v4,.bool a0_p.split],.int .i64 a1_done,.int .u64 a2_hash.toNat] w fun e w'=>e = .returned (.bool r)∧Ext w w':=by
 have hm0:=R_max h0
 obtain ⟨p0,c0,rfl⟩:=R_form h0
 have hm1:=R_max h1
 obtain ⟨p1,c1,rfl⟩:=R_form h1
 have hm2:=R_max h2
 obtain ⟨p2,c2,rfl⟩:=R_form h2
 have hm3:=R_max h3
 obtain ⟨p3,c3,rfl⟩:=R_form h3
 have hm4:=R_max h4
 obtain ⟨p4,c4,rfl⟩:=R_form h4
 unfold peer_split at H
 refine T.enter (args:=[_,_,_]) (S:=Sat w []) Tryz.func235 rfl rfl (Sat.start w) ?_
 refine T.seq fun K1 hK1=>T.region (RS.solid (Sd.box (cs:=[_,_,_,_,_,_,_,_,_,_,_]) rfl rfl) rfl rfl fun b1=>rA rfl (RS.nil (hK1 _ _ ?_)))
 refine T.seq fun K2 hK2=>T.region (rp (Pu.fieldAddr fd89_9 rfl) (rq (Qt.ldB 0 ty87 rfl rfl rfl) (rp (Pu.lenSl sl87 rfl) (rp (Pu.fieldAddr fd89_3 rfl) (rq (Qt.ldB 0 ty3 rfl rfl rfl) (rM rfl ?_))))))
 obtain ⟨g2,H⟩:=gdE H
 refine rp (Pu.subS rfl rfl g2) ?_
 obtain ⟨g3,H⟩:=gdE H
 refine rp (Pu.subS rfl rfl g3) (rA rfl (RS.nil (hK2 _ _ (cq [(1,_),(2,_),(3,_),(7,_)] ?_))))
 refine T.seq fun K3 hK3=>T.region (rM rfl (rp (Pu.fieldAddr fd89_3 rfl) (rq (Qt.ldB 0 ty3 rfl rfl rfl) (rp (Pu.bin rfl rfl rfl) (rM rfl ?_)))))
 refine RS.joinV 3 23 (.bool (decide ((a1_done < a0_p.turn)∧(0 ≤ ((a0_p.hashes.length:Int) - (a0_p.turn - a1_done)))))) [(2,_),(3,_),(7,_)] ⟨rfl,rfl,rfl,trivial⟩ ?_ ?_
 ·refine rM rfl ?_
  obtain ⟨g8,H⟩:=gdE H
  refine RS.joinV 8 32 (.bool (decide (((a1_done < a0_p.turn)∧(0 ≤ ((a0_p.hashes.length:Int) - (a0_p.turn - a1_done))))∧(¬ ((gi a0_p.hashes ((a0_p.hashes.length:Int) - (a0_p.turn - a1_done))).toNat:Int) = (a2_hash.toNat:Int))))) [] trivial ?_ ?_
  ·refine rA rfl (RS.nil (hK3 _ _ ?_))
   obtain rfl:=sj H
   refine T.rt (Cont.ret1 rfl rfl fun w' s=>?_)
   exact ⟨rfl,s.ext⟩
  ·intro hJ7
   refine RS.splitP 24 rfl (fun hc6=>?_) (fun hc6=>?_)
   ·refine rp (Pu.fieldAddr fd89_9 rfl) (rq (Qt.ldB 0 ty87 rfl rfl rfl) (rM rfl ?_))
    obtain ⟨bl9,ol10,rfl⟩:=R_ptr h4 (ne_of_pos (pos_of (g8 hc6)))
    refine rp (Pu.indexSl sl87 rfl rfl (g8 hc6)) (rq (Qt.ld0 (α:=UInt64) (Rd.base h4) ty112 rfl rfl (g8 hc6) (by rintro _ _ rfl; rfl)) (rM rfl (rp (Pu.bin rfl rfl rfl) (rp (Pu.pickT rfl rfl) ?_))))
    exact hJ7 _ _ ⟨dAndT hc6,trivial⟩ (fun w s=>s)
   ·refine ro (ro (ro (ro (ro (ro (ro (rp (Pu.pickF rfl rfl) ?_)))))))
    exact hJ7 _ _ ⟨dAndF hc6,trivial⟩ (fun w s=>s)
 ·intro hJ5
  refine RS.splitP 20 rfl (fun hc4=>?_) (fun hc4=>?_)
  ·refine rM rfl (rp (Pu.bin rfl rfl rfl) (rp (Pu.pickT rfl rfl) ?_))
   exact hJ5 _ _ ⟨dAndT hc4,rfl,rfl,rfl,trivial⟩ (fun w s=>s)
  ·refine ro (ro (rp (Pu.pickF rfl rfl) ?_))
   exact hJ5 _ _ ⟨dAndF hc4,rfl,rfl,rfl,trivial⟩ (fun w s=>s)
theorem peer_Take_walk (a0_p:Per) (a1_n:Nte) (w:World) {v0 v1 v2 v3 v4 v5:Value} (h0:R (hpOf w) a0_p.mine [v0]) (h1:R (hpOf w) a0_p.inputs [v1]) (h2:R (hpOf w) a0_p.has [v2]) (h3:R (hpOf w) a0_p.acked [v3]) (h4:R (hpOf w) a0_p.hashes [v4]) (h5:R (hpOf w) a1_n.input.commands [v5]) {r:Per × Int} (H:peer_Take a0_p a1_n = some r):Calls Tryz.prog 163 #[.agg #[.int .i64 a0_p.id,.int .i64 a0_p.players,.int .i64 a0_p.delay,.int .i64 a0_p.turn,.int .i64 a0_p.said,v0,v1,v2,v3,v4,.bool a0_p.split],.agg #[.int .i64 a1_n.frm,.int .i64 a1_n.dst,.int .i64 a1_n.input.turn,.int .i64 a1_n.input.player,v5,.int .i64 a1_n.don,.int .u64 (a1_n.hash.toNat:Int),.int .i64 a1_n.hav]] w fun e w'=>∃ g:(Option Nat × Nat) × (Option Nat × Nat) × (Option Nat × Nat) × (Option Nat × Nat) × (Option Nat × Nat),e = .returned (.tuple #[.agg #[.int .i64 r.1.id,.int .i64 r.1.players,.int .i64 r.1.delay,.int .i64 r.1.turn,.int .i64 r.1.said,rowV g.1 r.1.mine.length,rowV g.2.1 r.1.inputs.length,rowV g.2.2.1 r.1.has.length,rowV g.2.2.2.1 r.1.acked.length,rowV g.2.2.2.2 r.1.hashes.length,.bool r.1.split],.int .i64 r.2])∧Sat w [drow 210 (rowV g.1 r.1.mine.length) r.1.mine,drow 210 (rowV g.2.1 r.1.inputs.length) r.1.inputs,row nilH 3 (rowV g.2.2.1 r.1.has.length) r.1.has,row nilH 3 (rowV g.2.2.2.1 r.1.acked.length) r.1.acked,row nilH 112 (rowV g.2.2.2.2 r.1.hashes.length) r.1.hashes] w':=by
 have hm0:=R_max h0
 obtain ⟨p0,c0,rfl⟩:=R_form h0
 have hm1:=R_max h1
 obtain ⟨p1,c1,rfl⟩:=R_form h1
 have hm2:=R_max h2
 obtain ⟨p2,c2,rfl⟩:=R_form h2
 have hm3:=R_max h3
 obtain ⟨p3,c3,rfl⟩:=R_form h3
 have hm4:=R_max h4
 obtain ⟨p4,c4,rfl⟩:=R_form h4
 have hm5:=R_max h5
 obtain ⟨p5,c5,rfl⟩:=R_form h5
 unfold peer_Take at H
 refine T.enter (args:=[_,_]) (S:=Sat w []) Tryz.func163 rfl rfl (Sat.start w) ?_
 refine T.seq fun K1 hK1=>T.region (RS.solid (Sd.box (cs:=[_,_,_,_,_,_,_,_,_,_,_]) rfl rfl) rfl rfl fun b1=>RS.solid (Sd.box (cs:=[_,_,_,_,_,_,_,_]) rfl rfl) rfl rfl fun b2=>RS.solid (Sd.alloc zr89 rfl) rfl rfl fun b3=>?_)
 refine RS.weakS (fun w s=>(s.nilRowG (α:=Inp) 210)) ?_
 refine RS.weakS (fun w s=>(s.nilRowG (α:=Inp) 210)) ?_
 refine RS.weakS (fun w s=>(s.nilRow (α:=Int) 3)) ?_
 refine RS.weakS (fun w s=>(s.nilRow (α:=Int) 3)) ?_
 refine RS.weakS (fun w s=>(s.nilRow (α:=UInt64) 112)) ?_
 refine rA rfl (RS.nil (hK1 _ _ (cq [(2,_),(3,_),(4,_)] ?_)))
 refine T.seq fun K2 hK2=>T.block (T.seq fun K3 hK3=>?_)
 try dsimp only [List.set,List.cons_append,List.nil_append]
 refine T.region (rq (Qt.ldBA (us:=[_,_,_,_,_,_,_,_,_,_,_]) 0 ty89 rfl rfl rfl rfl) ?_)
 obtain ⟨x4,hx4,H⟩:=bindE H
 refine rq (Qt.call (vs:=[.agg #[.int .i64 a0_p.id,.int .i64 a0_p.players,.int .i64 a0_p.delay,.int .i64 a0_p.turn,.int .i64 a0_p.said,.slice p0 a0_p.mine.length c0,.slice p1 a0_p.inputs.length c1,.slice p2 a0_p.has.length c2,.slice p3 a0_p.acked.length c3,.slice p4 a0_p.hashes.length c4,.bool a0_p.split]]) ent58 rfl fun w s=>peer_May_walk a0_p w ((Rd.base h0) w s) ((Rd.base h1) w s) ((Rd.base h2) w s) ((Rd.base h3) w s) ((Rd.base h4) w s) hx4) (rp (Pu.not rfl) (rM rfl ?_))
 refine RS.joinB H 4 14 (fun b7=>.bool b7) [(2,_),(3,_),(4,_)] ⟨rfl,rfl,rfl,trivial⟩ ?_ ?_
 ·intro b7 H
  refine rM rfl ?_
  refine RS.joinV 6 21 (.bool (decide ((b7 = true) ∨ (¬ a1_n.dst = a0_p.id)))) [(2,_),(3,_),(4,_)] ⟨rfl,rfl,rfl,trivial⟩ ?_ ?_
  ·refine rM rfl ?_
   refine RS.joinV 6 28 (.bool (decide (((b7 = true) ∨ (¬ a1_n.dst = a0_p.id)) ∨ (a0_p.players < a1_n.frm)))) [(2,_),(3,_),(4,_)] ⟨rfl,rfl,rfl,trivial⟩ ?_ ?_
   ·refine rA rfl (RS.nil (hK3 _ _ ?_))
    refine T.condP rfl (fun hc12=>?_) (fun hc12=>?_)
    ·have H:=ifT hc12 H
     refine cq [(4,_)] ?_
     refine T.seq fun K4 hK4=>?_
     try dsimp only [List.set,List.cons_append,List.nil_append]
     refine T.region (rp (Pu.build (cells:=[_,_,_,_,_,_,_,_,_,_,_]) st89 rfl rfl) (RS.solid (Sd.stB (cs':=[_,_,_,_,_,_,_,_,_,_,_]) 2 ty89 rfl rfl rfl rfl rfl rfl rfl rfl) rfl rfl fun _=>rA rfl (RS.nil (hK4 _ _ ?_))))
     obtain rfl:=sj H
     try dsimp only [List.set,List.cons_append,List.nil_append]
     refine T.rt (Cont.retCT 2 rfl ty89 rfl rfl rfl rfl fun w' s=>?_)
     exact ⟨⟨(none,0),(none,0),(none,0),(none,0),(none,0)⟩,rfl,(((((s.nilRowG (α:=Inp) 210).nilRowG (α:=Inp) 210).nilRow (α:=Int) 3).nilRow (α:=Int) 3).nilRow (α:=UInt64) 112).pick [8,9,10,11,12] (by decide) rfl⟩
    ·have H:=ifF hc12 H
     refine T.seq fun K5 hK5=>?_
     try dsimp only [List.set,List.cons_append,List.nil_append]
     refine T.region (rp (Pu.fieldAddr fd212_2 rfl) (rp (Pu.fieldAddr fd210_0 rfl) (rq (Qt.ldB 1 ty3 rfl rfl rfl) (rp (Pu.fieldAddr fd89_3 rfl) (rq (Qt.ldB 0 ty3 rfl rfl rfl) ?_)))))
     obtain ⟨g13,H⟩:=gdE H
     refine rp (Pu.addS rfl rfl g13) (rp (Pu.bin rfl rfl rfl) (rA rfl (RS.nil (hK5 _ _ ?_))))
     refine T.condP rfl (fun hc14=>?_) (fun hc14=>?_)
     ·have H:=ifT hc14 H
      refine cq [(4,_)] ?_
      refine T.seq fun K6 hK6=>?_
      try dsimp only [List.set,List.cons_append,List.nil_append]
      refine T.region (rp (Pu.build (cells:=[_,_,_,_,_,_,_,_,_,_,_]) st89 rfl rfl) (RS.solid (Sd.stB (cs':=[_,_,_,_,_,_,_,_,_,_,_]) 2 ty89 rfl rfl rfl rfl rfl rfl rfl rfl) rfl rfl fun _=>rA rfl (RS.nil (hK6 _ _ ?_))))
      obtain rfl:=sj H
      try dsimp only [List.set,List.cons_append,List.nil_append]
      refine T.rt (Cont.retCT 2 rfl ty89 rfl rfl rfl rfl fun w' s=>?_)
      exact ⟨⟨(none,0),(none,0),(none,0),(none,0),(none,0)⟩,rfl,(((((s.nilRowG (α:=Inp) 210).nilRowG (α:=Inp) 210).nilRow (α:=Int) 3).nilRow (α:=Int) 3).nilRow (α:=UInt64) 112).pick [8,9,10,11,12] (by decide) rfl⟩
     ·have H:=ifF hc14 H
      refine T.skip (hK2 _ _ (cq [(2,_),(3,_),(4,_)] ?_))
      refine T.seq fun K7 hK7=>?_
      try dsimp only [List.set,List.cons_append,List.nil_append]
      refine T.region (rq (Qt.ldBA (us:=[_,_,_,_,_,_,_,_,_,_,_]) 0 ty89 rfl rfl rfl rfl) ?_)
      obtain ⟨x15,hx15,H⟩:=bindE H
      refine RS.solid (Sd.callN (vs:=[.agg #[.int .i64 a0_p.id,.int .i64 a0_p.players,.int .i64 a0_p.delay,.int .i64 a0_p.turn,.int .i64 a0_p.said,.slice p0 a0_p.mine.length c0,.slice p1 a0_p.inputs.length c1,.slice p2 a0_p.has.length c2,.slice p3 a0_p.acked.length c3,.slice p4 a0_p.hashes.length c4,.bool a0_p.split]]) ent155 rfl (fun w s=>peer_Own_walk a0_p w ((Rd.base h0) w s) ((Rd.base h1) w s) ((Rd.base h2) w s) ((Rd.base h3) w s) ((Rd.base h4) w s) hx15)) rfl rfl fun ⟨q16,q17,q18,q19,q20⟩=>?_
      refine RS.solid (Sd.stB (cs':=[_,_,_,_,_,_,_,_,_,_,_]) 0 ty89 rfl rfl rfl rfl rfl rfl rfl rfl) rfl rfl fun _=>RS.nil (hK7 _ _ ?_)
      refine T.seq fun K8 hK8=>T.seq fun K9 hK9=>?_
      try dsimp only [List.set,List.cons_append,List.nil_append]
      refine T.drawn (fun _=>True) [(0,.pu),(1,.pu),(2,.rd),(3,.pu),(4,.rd),(5,.pu),(6,.rd),(7,.pu),(8,.pu),(9,.rd),(10,.pu),(11,.pu)] mixed (ClE.sat _ _) (by kernel_rfl) ?_
      refine dp rfl (Pu.fieldAddr fd212_2 rfl) (dp rfl (Pu.fieldAddr fd210_0 rfl) (dq rfl (Qt.ldB 1 ty3 rfl rfl rfl) (dp rfl (Pu.fieldAddr fd89_7 rfl) (dq rfl (Qt.ldB 0 ty35 rfl rfl rfl) (dp rfl (Pu.fieldAddr fd212_0 rfl) (dq rfl (Qt.ldB 1 ty3 rfl rfl rfl) ?_))))))
      obtain ⟨g21,H⟩:=gdE H
      refine dp rfl (Pu.subS rfl rfl g21) ?_
      obtain ⟨g22,H⟩:=gdE H
      refine RD.know (p:=∃ g cap,q18 = (some g,cap)) (fun w s=>(s.row_some (k:=10) rfl (pos_of g22))) ?_
      rintro ⟨gg23,cc24,rfl⟩
      refine dp rfl (Pu.indexSl sl35 rfl rfl g22) (dq rfl (Qt.ld0 (α:=Int) (Rd.ofRowN 10 rfl) ty3 rfl rfl g22 (by rintro _ _ rfl; rfl)) ?_)
      obtain ⟨g25,H⟩:=gdE H
      refine dp rfl (Pu.addS rfl rfl g25) (dp rfl (Pu.bin rfl rfl rfl) (RD.nil (hK9 _ _ ?_)))
      refine T.joinE (σ:=List Int × List Inp) (γ:=(Option Nat × Nat)) H (fun s=>s) [(2,_),(3,_),(4,_)] ⟨rfl,rfl,rfl,trivial⟩ (fun (v27,v28) q29=>[]) (fun (v27,v28) q29=>Sat w [blk b1 [.int .i64 x15.id,.int .i64 x15.players,.int .i64 x15.delay,.int .i64 x15.turn,.int .i64 x15.said,rowV q16 x15.mine.length,rowV q29 v28.length,rowV (some gg23,cc24) x15.has.length,rowV q19 x15.acked.length,rowV q20 x15.hashes.length,.bool x15.split] 89,blk b2 [.int .i64 a1_n.frm,.int .i64 a1_n.dst,.int .i64 a1_n.input.turn,.int .i64 a1_n.input.player,.slice p5 a1_n.input.commands.length c5,.int .i64 a1_n.don,.int .u64 (a1_n.hash.toNat:Int),.int .i64 a1_n.hav] 212,blk b3 [.int .i64 0,.int .i64 0,.int .i64 0,.int .i64 0,.int .i64 0,rowV (none,0) 0,rowV (none,0) 0,rowV (none,0) 0,rowV (none,0) 0,rowV (none,0) 0,.bool false] 89,drow 210 (rowV (none,0) 0) ([]:List Inp),drow 210 (rowV (none,0) 0) ([]:List Inp),row nilH 3 (rowV (none,0) 0) ([]:List Int),row nilH 3 (rowV (none,0) 0) ([]:List Int),row nilH 112 (rowV (none,0) 0) ([]:List UInt64),drow 210 (rowV q16 x15.mine.length) x15.mine,dead,row nilH 3 (rowV (some gg23,cc24) x15.has.length) v27,row nilH 3 (rowV q19 x15.acked.length) x15.acked,row nilH 112 (rowV q20 x15.hashes.length) x15.hashes,drow 210 (rowV q29 v28.length) v28]) ?_ ?_
      ·rintro ⟨v27,v28⟩ q29 H
       try dsimp only [Ex.then] at H
       refine Cont.conseq (fr':=[(2,_),(3,_),(4,_)]) ?_ ⟨rfl,rfl,rfl,trivial⟩ (fun _ s=>s)
       refine id (hK8 _ _ ?_)
       refine T.seq fun K10 hK10=>?_
       try dsimp only [List.set,List.cons_append,List.nil_append]
       refine T.region (rp (Pu.fieldAddr fd212_0 rfl) (rq (Qt.ldB 1 ty3 rfl rfl rfl) (rp (Pu.fieldAddr fd212_5 rfl) (rq (Qt.ldB 1 ty3 rfl rfl rfl) ?_))))
       refine RS.weakS (fun w s=>Per_shut (R:=[blk b2 [.int .i64 a1_n.frm,.int .i64 a1_n.dst,.int .i64 a1_n.input.turn,.int .i64 a1_n.input.player,.slice p5 a1_n.input.commands.length c5,.int .i64 a1_n.don,.int .u64 (a1_n.hash.toNat:Int),.int .i64 a1_n.hav] 212,blk b3 [.int .i64 0,.int .i64 0,.int .i64 0,.int .i64 0,.int .i64 0,rowV (none,0) 0,rowV (none,0) 0,rowV (none,0) 0,rowV (none,0) 0,rowV (none,0) 0,.bool false] 89,drow 210 (rowV (none,0) 0) ([]:List Inp),drow 210 (rowV (none,0) 0) ([]:List Inp),row nilH 3 (rowV (none,0) 0) ([]:List Int),row nilH 3 (rowV (none,0) 0) ([]:List Int),row nilH 112 (rowV (none,0) 0) ([]:List UInt64),dead]) (g:=b1) (x:=(⟨x15.id,x15.players,x15.delay,x15.turn,x15.said,x15.mine,v28,v27,x15.acked,x15.hashes,x15.split⟩:Per)) ⟨q16,q29,(some gg23,cc24),q19,q20⟩ ((Sat.cellB 0 (Sat.relen (q:=(some gg23,cc24)) (m:=x15.has.length) 10 s rfl) rfl (congrArg (fun z=>[.int .i64 x15.id,.int .i64 x15.players,.int .i64 x15.delay,.int .i64 x15.turn,.int .i64 x15.said,rowV q16 x15.mine.length,rowV q29 v28.length,rowV (some gg23,cc24) z,rowV q19 x15.acked.length,rowV q20 x15.hashes.length,.bool x15.split]) (s.row_fits (q:=(some gg23,cc24)) (m:=x15.has.length) (k:=10) rfl).1)).pick [1,2,3,4,5,6,7,9,0,8,13,10,11,12] (by decide) rfl)) ?_
       obtain ⟨x30,hx30,H⟩:=bindE H
       refine RS.solid (Sd.callF0 0 ent234 rfl rfl (fun w s=>peer_acked_walk b1 (⟨x15.id,x15.players,x15.delay,x15.turn,x15.said,x15.mine,v28,v27,x15.acked,x15.hashes,x15.split⟩:Per) a1_n.frm a1_n.hav  hx30 w s)) rfl rfl fun _=>?_
       refine RS.ex (S':=fun q:(Option Nat × Nat) × (Option Nat × Nat) × (Option Nat × Nat) × (Option Nat × Nat) × (Option Nat × Nat)=>Sat w [blk b1 [.int .i64 x30.id,.int .i64 x30.players,.int .i64 x30.delay,.int .i64 x30.turn,.int .i64 x30.said,rowV q.1 x30.mine.length,rowV q.2.1 x30.inputs.length,rowV q.2.2.1 x30.has.length,rowV q.2.2.2.1 x30.acked.length,rowV q.2.2.2.2 x30.hashes.length,.bool x30.split] 89,blk b2 [.int .i64 a1_n.frm,.int .i64 a1_n.dst,.int .i64 a1_n.input.turn,.int .i64 a1_n.input.player,.slice p5 a1_n.input.commands.length c5,.int .i64 a1_n.don,.int .u64 (a1_n.hash.toNat:Int),.int .i64 a1_n.hav] 212,blk b3 [.int .i64 0,.int .i64 0,.int .i64 0,.int .i64 0,.int .i64 0,rowV (none,0) 0,rowV (none,0) 0,rowV (none,0) 0,rowV (none,0) 0,rowV (none,0) 0,.bool false] 89,drow 210 (rowV (none,0) 0) ([]:List Inp),drow 210 (rowV (none,0) 0) ([]:List Inp),row nilH 3 (rowV (none,0) 0) ([]:List Int),row nilH 3 (rowV (none,0) 0) ([]:List Int),row nilH 112 (rowV (none,0) 0) ([]:List UInt64),drow 210 (rowV q.1 x30.mine.length) x30.mine,dead,row nilH 3 (rowV q.2.2.1 x30.has.length) x30.has,row nilH 3 (rowV q.2.2.2.1 x30.acked.length) x30.acked,row nilH 112 (rowV q.2.2.2.2 x30.hashes.length) x30.hashes,drow 210 (rowV q.2.1 x30.inputs.length) x30.inputs]) (fun w s=>let ⟨q,s⟩:=Per_open 0 rfl s; ⟨q,s.pick [0,1,2,3,4,5,6,7,9,8,11,12,13,10] (by decide) rfl⟩) ?_
       rintro ⟨q31,q32,q33,q34,q35⟩
       show RS _ _ _ _ _ _ (Sat w [blk b1 [.int .i64 x30.id,.int .i64 x30.players,.int .i64 x30.delay,.int .i64 x30.turn,.int .i64 x30.said,rowV q31 x30.mine.length,rowV q32 x30.inputs.length,rowV q33 x30.has.length,rowV q34 x30.acked.length,rowV q35 x30.hashes.length,.bool x30.split] 89,blk b2 [.int .i64 a1_n.frm,.int .i64 a1_n.dst,.int .i64 a1_n.input.turn,.int .i64 a1_n.input.player,.slice p5 a1_n.input.commands.length c5,.int .i64 a1_n.don,.int .u64 (a1_n.hash.toNat:Int),.int .i64 a1_n.hav] 212,blk b3 [.int .i64 0,.int .i64 0,.int .i64 0,.int .i64 0,.int .i64 0,rowV (none,0) 0,rowV (none,0) 0,rowV (none,0) 0,rowV (none,0) 0,rowV (none,0) 0,.bool false] 89,drow 210 (rowV (none,0) 0) ([]:List Inp),drow 210 (rowV (none,0) 0) ([]:List Inp),row nilH 3 (rowV (none,0) 0) ([]:List Int),row nilH 3 (rowV (none,0) 0) ([]:List Int),row nilH 112 (rowV (none,0) 0) ([]:List UInt64),drow 210 (rowV q31 x30.mine.length) x30.mine,dead,row nilH 3 (rowV q33 x30.has.length) x30.has,row nilH 3 (rowV q34 x30.acked.length) x30.acked,row nilH 112 (rowV q35 x30.hashes.length) x30.hashes,drow 210 (rowV q32 x30.inputs.length) x30.inputs])
       refine RS.nil (hK10 _ _ (cq [(2,_),(3,_),(4,_)] ?_))
       refine T.seq fun K11 hK11=>?_
       try dsimp only [List.set,List.cons_append,List.nil_append]
       refine T.region (rp (Pu.fieldAddr fd89_10 rfl) (rq (Qt.ldB 0 ty4 rfl rfl rfl) (rM rfl ?_)))
       refine RS.joinB H 7 85 (fun b38=>.bool b38) [(2,_),(4,_)] ⟨rfl,rfl,trivial⟩ ?_ ?_
       ·intro b38 H
        refine rp (Pu.fieldAddr fd89_10 rfl) (RS.solid (Sd.stB (cs':=[_,_,_,_,_,_,_,_,_,_,_]) 0 ty4 rfl rfl rfl rfl rfl rfl rfl rfl) rfl rfl fun _=>RS.nil (hK11 _ _ ?_))
        refine T.seq fun K12 hK12=>?_
        try dsimp only [List.set,List.cons_append,List.nil_append]
        refine T.region (rq (Qt.ldBA (us:=[_,_,_,_,_,_,_,_,_,_,_]) 0 ty89 rfl rfl rfl rfl) (RS.solid (Sd.stB (cs':=[_,_,_,_,_,_,_,_,_,_,_]) 2 ty89 rfl rfl rfl rfl rfl rfl rfl rfl) rfl rfl fun _=>rA rfl (RS.nil (hK12 _ _ (cq [(4,_),(5,_)] ?_)))))
        obtain rfl:=sj H
        try dsimp only [List.set,List.cons_append,List.nil_append]
        refine T.rt (Cont.retCT 2 rfl ty89 rfl rfl rfl rfl fun w' s=>?_)
        exact ⟨⟨q31,q32,q33,q34,q35⟩,rfl,s.pick [8,13,10,11,12] (by decide) rfl⟩
       ·intro z39 H hJ37
        refine RS.split 78 rfl (fun hc36=>?_) (fun hc36=>?_)
        ·have H:=ifT hc36 H
         refine ro (ro (ro (ro (ro (ro (rp (Pu.pickT rfl rfl) ?_))))))
         obtain rfl:=sj H
         exact hJ37 _ _ ⟨rfl,rfl,rfl,trivial⟩ (fun w s=>s)
        ·have H:=ifB hc36 H
         refine rq (Qt.ldBA (us:=[_,_,_,_,_,_,_,_,_,_,_]) 0 ty89 rfl rfl rfl rfl) (rp (Pu.fieldAddr fd212_3 rfl) (rq (Qt.ldB 1 ty3 rfl rfl rfl) (rp (Pu.fieldAddr fd212_4 rfl) (rq (Qt.ldB 1 ty112 rfl rfl rfl) ?_))))
         obtain ⟨x40,hx40,H⟩:=bindE H
         refine rq (Qt.call (vs:=[.agg #[.int .i64 x30.id,.int .i64 x30.players,.int .i64 x30.delay,.int .i64 x30.turn,.int .i64 x30.said,rowV q31 x30.mine.length,rowV q32 x30.inputs.length,rowV q33 x30.has.length,rowV q34 x30.acked.length,rowV q35 x30.hashes.length,.bool x30.split],.int .i64 a1_n.don,.int .u64 (a1_n.hash.toNat:Int)]) ent235 rfl fun w s=>peer_split_walk x30 a1_n.don a1_n.hash w ((Rd.ofG 8 rfl) w s) ((Rd.ofG 13 rfl) w s) ((Rd.ofRowN 10 rfl) w s) ((Rd.ofRowN 11 rfl) w s) ((Rd.ofRowN 12 rfl) w s) hx40) (rp (Pu.pickF rfl rfl) ?_)
         obtain rfl:=sj H
         exact hJ37 _ _ ⟨rfl,rfl,rfl,trivial⟩ (fun w s=>s)
      ·intro z26 H HX26 hJ26
       refine T.condP rfl (fun hc41=>?_) (fun hc41=>?_)
       ·have H:=ifT hc41 H
        refine cq [(2,_),(3,_),(4,_)] ?_
        refine T.seq fun K13 hK13=>?_
        try dsimp only [List.set,List.cons_append,List.nil_append]
        refine T.region (rp (Pu.fieldAddr fd89_6 rfl) (rq (Qt.ldB 0 ty86 rfl rfl rfl) (rp (Pu.fieldAddr fd212_2 rfl) (rq (Qt.ldBA (us:=[_,_,_]) 1 ty210 rfl rfl rfl rfl) ?_))))
        obtain ⟨x42,hx42,H⟩:=bindE H
        refine RS.solid (Sd.callN (vs:=[rowV q17 x15.inputs.length,.agg #[.int .i64 a1_n.input.turn,.int .i64 a1_n.input.player,.slice p5 a1_n.input.commands.length c5]]) ent156 rfl (fun w s=>turns_In_walk x15.inputs a1_n.input w ((Rd.ofG 9 rfl) w s) ((Rd.base h5) w s) hx42)) rfl rfl fun q43=>rM rfl (rp (Pu.extract rfl rfl) (rp (Pu.extract rfl rfl) (rp (Pu.fieldAddr fd89_6 rfl) (RS.solid (Sd.stB (cs':=[_,_,_,_,_,_,_,_,_,_,_]) 0 ty86 rfl rfl rfl rfl rfl rfl rfl rfl) rfl rfl fun _=>RS.nil (hK13 _ _ (cq [(2,_),(3,_),(4,_)] ?_))))))
        try dsimp only [List.set,List.cons_append,List.nil_append]
        refine T.region (rp (Pu.fieldAddr fd89_7 rfl) (rq (Qt.ldB 0 ty35 rfl rfl rfl) (rp (Pu.fieldAddr fd212_0 rfl) (rq (Qt.ldB 1 ty3 rfl rfl rfl) ?_))))
        obtain ⟨g44,H⟩:=gdE H
        refine rp (Pu.subS rfl rfl g44) ?_
        obtain ⟨g45,H⟩:=gdE H
        refine rp (Pu.indexSl sl35 rfl rfl g45) (rq (Qt.ld0 (α:=Int) (Rd.ofRowN 10 rfl) ty3 rfl rfl g45 (by rintro _ _ rfl; rfl)) ?_)
        obtain ⟨g46,H⟩:=gdE H
        refine rp (Pu.addS rfl rfl g46) ?_
        obtain ⟨g47,H⟩:=gdE H
        refine rp (Pu.indexSl sl35 rfl rfl g47) (RS.solid (Sd.st0 (α:=Int) 10 ((gi x15.has (a1_n.frm - 1)) + 1) rfl ty3 rfl rfl rfl g47 rfl rfl (by decide) rfl (by rintro _ _ rfl; rfl)) rfl rfl fun _=>?_)
        obtain rfl:=sj H
        refine RS.nil (hJ26 _ _ ((si x15.has (a1_n.frm - 1) ((gi x15.has (a1_n.frm - 1)) + 1)),x42.1) q43 HX26 ⟨rfl,rfl,rfl,trivial⟩ trivial (fun w s=>(s.deadRow).pick [0,1,2,3,4,5,6,7,8,14,10,11,12,13] (by decide) rfl))
       ·have H:=ifF hc41 H
        obtain rfl:=sj H
        refine T.skip (hJ26 _ _ (x15.has,x15.inputs) q17 HX26 ⟨rfl,rfl,rfl,trivial⟩ trivial (fun w s=>(s.deadRow).pick [0,1,2,3,4,5,6,7,8,13,10,11,12,9] (by decide) rfl))
   ·intro hJ11
    refine RS.splitP 22 rfl (fun hc10=>?_) (fun hc10=>?_)
    ·refine ro (ro (ro (ro (ro (rp (Pu.pickT rfl rfl) ?_)))))
     exact hJ11 _ _ ⟨dOrT hc10,rfl,rfl,rfl,trivial⟩ (fun w s=>s)
    ·refine rp (Pu.fieldAddr fd212_0 rfl) (rq (Qt.ldB 1 ty3 rfl rfl rfl) (rp (Pu.fieldAddr fd89_1 rfl) (rq (Qt.ldB 0 ty3 rfl rfl rfl) (rp (Pu.bin rfl rfl rfl) (rp (Pu.pickF rfl rfl) ?_)))))
     exact hJ11 _ _ ⟨dOrF hc10,rfl,rfl,rfl,trivial⟩ (fun w s=>s)
  ·intro hJ9
   refine RS.split 15 rfl (fun hc8=>?_) (fun hc8=>?_)
   ·refine ro (ro (ro (ro (ro (rp (Pu.pickT rfl rfl) ?_)))))
    exact hJ9 _ _ ⟨dOrT hc8,rfl,rfl,rfl,trivial⟩ (fun w s=>s)
   ·refine rp (Pu.fieldAddr fd212_1 rfl) (rq (Qt.ldB 1 ty3 rfl rfl rfl) (rp (Pu.fieldAddr fd89_0 rfl) (rq (Qt.ldB 0 ty3 rfl rfl rfl) (rp (Pu.bin rfl rfl rfl) (rp (Pu.pickF rfl rfl) ?_)))))
    exact hJ9 _ _ ⟨dOrF (bne_of hc8),rfl,rfl,rfl,trivial⟩ (fun w s=>s)
 ·intro z48 H hJ6
  refine RS.split 10 rfl (fun hc5=>?_) (fun hc5=>?_)
  ·have H:=ifT hc5 H
   refine ro (ro (ro (rp (Pu.pickT rfl rfl) ?_)))
   obtain rfl:=sj H
   exact hJ6 _ _ ⟨rfl,rfl,rfl,rfl,trivial⟩ (fun w s=>s)
  ·have H:=ifB hc5 H
   refine rq (Qt.ldBA (us:=[_,_,_,_,_,_,_,_]) 1 ty212 rfl rfl rfl rfl) ?_
   obtain ⟨x49,hx49,H⟩:=bindE H
   refine rq (Qt.call (vs:=[.agg #[.int .i64 a1_n.frm,.int .i64 a1_n.dst,.int .i64 a1_n.input.turn,.int .i64 a1_n.input.player,.slice p5 a1_n.input.commands.length c5,.int .i64 a1_n.don,.int .u64 (a1_n.hash.toNat:Int),.int .i64 a1_n.hav]]) ent233 rfl fun w s=>peer_MayNote_walk a1_n w ((Rd.base h5) w s) hx49) (rp (Pu.not rfl) (rp (Pu.pickF rfl rfl) ?_))
   obtain rfl:=sj H
   exact hJ6 _ _ ⟨rfl,rfl,rfl,rfl,trivial⟩ (fun w s=>s)
end Go.Proofs.YtmngdgclldkcfaaGreat
