/-
  Walks of the peers' functions.
-/
import Derived.Test.YtmngdgclldkcfaaGreatRows
import Derived.Test.YtmngdgclldkcfaaGreatJ6
import Derived.Test.YtmngdgclldkcfaaGreatJ7
import Derived.Test.YtmngdgclldkcfaaGreatTJ
import Derived.Test.YtmngdgclldkcfaaGreatJ21
set_option linter.unusedVariables false
set_option linter.unusedSimpArgs false
set_option maxRecDepth 20000
set_option maxHeartbeats 4000000
namespace Go.Proofs.YtmngdgclldkcfaaGreat
open Go.Vg
open Enc (R)
theorem ent100:Ent Tryz.prog 100:=en Tryz.func100
theorem ent101:Ent Tryz.prog 101:=en Tryz.func101
theorem ent102:Ent Tryz.prog 102:=en Tryz.func102
theorem ent103:Ent Tryz.prog 103:=en Tryz.func103
theorem ent155:Ent Tryz.prog 155:=en Tryz.func155
theorem ent156:Ent Tryz.prog 156:=en Tryz.func156
theorem ent158:Ent Tryz.prog 158:=en Tryz.func158
theorem ent159:Ent Tryz.prog 159:=en Tryz.func159
theorem ent224:Ent Tryz.prog 224:=en Tryz.func224
theorem ent227:Ent Tryz.prog 227:=en Tryz.func227
theorem ent228:Ent Tryz.prog 228:=en Tryz.func228
theorem ent229:Ent Tryz.prog 229:=en Tryz.func229
theorem ent57:Ent Tryz.prog 57:=en Tryz.func57
theorem ent58:Ent Tryz.prog 58:=en Tryz.func58
theorem ent98:Ent Tryz.prog 98:=en Tryz.func98
theorem ent99:Ent Tryz.prog 99:=en Tryz.func99
instance fd212_2:FdC Tryz.prog 212 2 2:={}
instance fd212_3:FdC Tryz.prog 212 3 5:={}
instance fd212_4:FdC Tryz.prog 212 4 6:={}
instance fd89_0:FdC Tryz.prog 89 0 0:={}
instance fd89_1:FdC Tryz.prog 89 1 1:={}
instance fd89_2:FdC Tryz.prog 89 2 2:={}
instance fd89_3:FdC Tryz.prog 89 3 3:={}
instance fd89_4:FdC Tryz.prog 89 4 4:={}
instance fd89_5:FdC Tryz.prog 89 5 5:={}
instance fd89_6:FdC Tryz.prog 89 6 6:={}
instance fd89_7:FdC Tryz.prog 89 7 7:={}
instance fd89_8:FdC Tryz.prog 89 8 8:={}
instance fd89_9:FdC Tryz.prog 89 9 9:={}
instance sl83:SlC Tryz.prog 83 (212,8,80):={}
theorem st210:stTy Tryz.prog 210 = some ([.int .i64 0,.int .i64 0,.slice none 0 0],[(0,1),(1,1),(2,1)]):=by kernel_rfl
theorem st212:stTy Tryz.prog 212 = some ([.int .i64 0,.int .i64 0,.int .i64 0,.int .i64 0,.slice none 0 0,.int .i64 0,.int .u64 0,.int .i64 0],[(0,1),(1,1),(2,3),(5,1),(6,1),(7,1)]):=by kernel_rfl
theorem st89:stTy Tryz.prog 89 = some ([.int .i64 0,.int .i64 0,.int .i64 0,.int .i64 0,.int .i64 0,.slice none 0 0,.slice none 0 0,.slice none 0 0,.slice none 0 0,.slice none 0 0,.bool false],[(0,1),(1,1),(2,1),(3,1),(4,1),(5,1),(6,1),(7,1),(8,1),(9,1),(10,1)]):=by kernel_rfl
instance ty212:TyC Tryz.prog 212 (8,true):={}
instance ty86:TyC Tryz.prog 86 (1,false):={}
instance ty87:TyC Tryz.prog 87 (1,false):={}
instance ty89:TyC Tryz.prog 89 (11,true):={}
theorem zr212:zeroOf Tryz.prog 212 = some (.agg #[.int .i64 0,.int .i64 0,.int .i64 0,.int .i64 0,.slice none 0 0,.int .i64 0,.int .u64 0,.int .i64 0]):=by kernel_rfl
theorem zr89:zeroOf Tryz.prog 89 = some (.agg #[.int .i64 0,.int .i64 0,.int .i64 0,.int .i64 0,.int .i64 0,.slice none 0 0,.slice none 0 0,.slice none 0 0,.slice none 0 0,.slice none 0 0,.bool false]):=by kernel_rfl
theorem slices_Min_walk (a0_x:List Int) (w:World) {v0:Value} (h0:R (hpOf w) a0_x [v0]) {r:Int} (H:slices_Min a0_x = some r):Calls Tryz.prog 99 #[v0] w fun e w'=>e = .returned (.int .i64 r)∧Ext w w':=by
 have hm0:=R_max h0
 obtain ⟨p0,c0,rfl⟩:=R_form h0
 unfold slices_Min at H
 refine te Tryz.func99 (Sat.start w) ?_
 refine au 2 ?_
 refine T.seq fun _ k2=>au 4 ?_
 refine T.joinE (σ:=Unit) (γ:=Unit) H (fun s=>s) [(0,_)] sb (fun _ _=>[]) (fun _ _=>Sat w []) ?_ ?_
 ·rintro ⟨⟩ ⟨⟩ H
  try dsimp only [Ex.then] at H
  refine Cont.kq [0] ?_
  refine id (k2 _ _ ?_)
  refine T.seq fun _ k4=>T.region (rM rfl ?_)
  obtain ⟨g2,H⟩:=gdE H
  obtain ⟨bl3,ol4,rfl⟩:=R_ptr h0 (ne_of_pos (pos_of g2))
  refine rp (Pu.indexSl sl35.h rfl rfl g2) (rq (Qt.ld0 (α:=Int) (Rd.base h0) ty3.h rfl rfl g2 (by rintro _ _ rfl; rfl)) (rA rfl (RS.nil (k4 _ _ (kq [0,3] ?_)))))
  refine T.seq fun _ k5=>au 2 ?_
  refine T.joinE (σ:=Int) (γ:=Unit) H (fun s=>s) [] trivial (fun v6 _=>[(3,.int .i64 v6)]) (fun v6 _=>Sat w []) ?_ ?_
  ·rintro v6 ⟨⟩ H
   try dsimp only [Ex.then] at H
   refine Cont.kq [3] ?_
   refine id (k5 _ _ ?_)
   refine au 3 ?_
   obtain rfl:=sj H
   refine T.rt (Cont.ret1 rfl rfl fun w' s=>?_)
   exact ⟨rfl,s.ext⟩
  intro z5 hz5 HX5 hJ5
  refine T.block ?_
  refine T.loopA (γ:=Unit) hz5 [(0,_)] (fun (v7,v8) _=>[(3,.int .i64 v7),(4,.int .i64 v8)]) (fun (v7,v8) _=>Sat w []) () sb sb (fun w s=>s) ?_
  rintro ⟨v7,v8⟩ ⟨⟩ y9 H hd5 KL5 hL5
  try dsimp only [Ex.then] at H
  refine kq [3,4,0] ?_
  refine T.seq fun _ k8=>au 5 ?_
  refine T.cP H rfl (fun hc10 H=>?_) (fun hc10 H=>?_)
  ·refine T.skip (k8 _ _ (kq [0,3,4] ?_))
   refine T.seq fun _ k10=>T.block (T.region (au 3 ?_))
   obtain ⟨g11,H⟩:=gdE H
   refine rp (Pu.indexSl sl35.h rfl rfl g11) (rq (Qt.ld0 (α:=Int) (Rd.base h0) ty3.h rfl rfl g11 (by rintro _ _ rfl; rfl)) (rp (Pu.minI rfl rfl) (rA rfl (RS.nil (k10 _ _ (kq [0,3,4] ?_))))))
   refine T.region (rM rfl ?_)
   obtain ⟨g12,H⟩:=gdE H
   refine rp (Pu.addS rfl rfl g12) (rA rfl (RS.nil (hL5 _ _ ((min v7 (gi a0_x v8)),(v8 + 1)) () H sb sb (fun w s=>s))))
  obtain rfl:=hd5 _ H
  refine T.xt (hJ5 _ _ v7 () HX5 trivial sb (fun w s=>s))
 intro z1 H HX1 hJ1
 refine T.cP H rfl (fun _ H=>nomatch H) (fun hc13 H=>?_)
 obtain rfl:=sj H
 refine T.skip (hJ1 _ _ () () HX1 sb trivial (fun w s=>s))
theorem slices_MaxI_walk (a0_x:List Int) (w:World) {v0:Value} (h0:R (hpOf w) a0_x [v0]) {r:Int} (H:slices_MaxI a0_x = some r):Calls Tryz.prog 100 #[v0] w fun e w'=>e = .returned (.int .i64 r)∧Ext w w':=by
 have hm0:=R_max h0
 obtain ⟨p0,c0,rfl⟩:=R_form h0
 unfold slices_MaxI at H
 refine te Tryz.func100 (Sat.start w) ?_
 refine au 2 ?_
 refine T.seq fun _ k2=>au 4 ?_
 refine T.joinE (σ:=Unit) (γ:=Unit) H (fun s=>s) [(0,_)] sb (fun _ _=>[]) (fun _ _=>Sat w []) ?_ ?_
 ·rintro ⟨⟩ ⟨⟩ H
  try dsimp only [Ex.then] at H
  refine Cont.kq [0] ?_
  refine id (k2 _ _ ?_)
  refine T.seq fun _ k4=>T.region (rM rfl ?_)
  obtain ⟨g2,H⟩:=gdE H
  obtain ⟨bl3,ol4,rfl⟩:=R_ptr h0 (ne_of_pos (pos_of g2))
  refine rp (Pu.indexSl sl35.h rfl rfl g2) (rq (Qt.ld0 (α:=Int) (Rd.base h0) ty3.h rfl rfl g2 (by rintro _ _ rfl; rfl)) (rA rfl (RS.nil (k4 _ _ (kq [0,3] ?_)))))
  refine T.seq fun _ k5=>au 2 ?_
  refine T.joinE (σ:=Int) (γ:=Unit) H (fun s=>s) [] trivial (fun v6 _=>[(3,.int .i64 v6)]) (fun v6 _=>Sat w []) ?_ ?_
  ·rintro v6 ⟨⟩ H
   try dsimp only [Ex.then] at H
   refine Cont.kq [3] ?_
   refine id (k5 _ _ ?_)
   refine au 3 ?_
   obtain rfl:=sj H
   refine T.rt (Cont.ret1 rfl rfl fun w' s=>?_)
   exact ⟨rfl,s.ext⟩
  intro z5 hz5 HX5 hJ5
  refine T.block ?_
  refine T.loopA (γ:=Unit) hz5 [(0,_)] (fun (v7,v8) _=>[(3,.int .i64 v7),(4,.int .i64 v8)]) (fun (v7,v8) _=>Sat w []) () sb sb (fun w s=>s) ?_
  rintro ⟨v7,v8⟩ ⟨⟩ y9 H hd5 KL5 hL5
  try dsimp only [Ex.then] at H
  refine kq [3,4,0] ?_
  refine T.seq fun _ k8=>au 5 ?_
  refine T.cP H rfl (fun hc10 H=>?_) (fun hc10 H=>?_)
  ·refine T.skip (k8 _ _ (kq [0,3,4] ?_))
   refine T.seq fun _ k10=>T.block (T.region (au 3 ?_))
   obtain ⟨g11,H⟩:=gdE H
   refine rp (Pu.indexSl sl35.h rfl rfl g11) (rq (Qt.ld0 (α:=Int) (Rd.base h0) ty3.h rfl rfl g11 (by rintro _ _ rfl; rfl)) (rp (Pu.maxI rfl rfl) (rA rfl (RS.nil (k10 _ _ (kq [0,3,4] ?_))))))
   refine T.region (rM rfl ?_)
   obtain ⟨g12,H⟩:=gdE H
   refine rp (Pu.addS rfl rfl g12) (rA rfl (RS.nil (hL5 _ _ ((max v7 (gi a0_x v8)),(v8 + 1)) () H sb sb (fun w s=>s))))
  obtain rfl:=hd5 _ H
  refine T.xt (hJ5 _ _ v7 () HX5 trivial sb (fun w s=>s))
 intro z1 H HX1 hJ1
 refine T.cP H rfl (fun _ H=>nomatch H) (fun hc13 H=>?_)
 obtain rfl:=sj H
 refine T.skip (hJ1 _ _ () () HX1 sb trivial (fun w s=>s))
theorem peer_counts_walk (a0_p:Per) (a1_l:List Int) (w:World) {v0 v1 v2 v3 v4 v5:Value} (h0:R (hpOf w) a0_p.mine [v0]) (h1:R (hpOf w) a0_p.inputs [v1]) (h2:R (hpOf w) a0_p.has [v2]) (h3:R (hpOf w) a0_p.acked [v3]) (h4:R (hpOf w) a0_p.hashes [v4]) (h5:R (hpOf w) a1_l [v5]) {r:Bool} (H:peer_counts a0_p a1_l = some r):Calls Tryz.prog 98 #[.agg #[.int .i64 a0_p.id,.int .i64 a0_p.players,.int .i64 a0_p.delay,.int .i64 a0_p.turn,.int .i64 a0_p.said,v0,v1,v2,v3,v4,.bool a0_p.split],v5] w fun e w'=>e = .returned (.bool r)∧Ext w w':=by
 have hm0:=R_max h0
 obtain ⟨p0,c0,rfl⟩:=R_form h0
 have hm1:=R_max h1
 obtain ⟨p1,c1,rfl⟩:=R_form h1
 have hm2:=R_max h2
 obtain ⟨p2,c2,rfl⟩:=R_form h2
 have hm3:=R_max h3
 obtain ⟨p3,c3,rfl⟩:=R_form h3
 have hm4:=R_max h4
 obtain ⟨p4,c4,rfl⟩:=R_form h4
 have hm5:=R_max h5
 obtain ⟨p5,c5,rfl⟩:=R_form h5
 unfold peer_counts at H
 refine te Tryz.func98 (Sat.start w) ?_
 refine T.seq fun _ k1=>T.region (RS.solid (Sd.box (cs:=[_,_,_,_,_,_,_,_,_,_,_]) rfl rfl) rfl rfl fun b1=>rA rfl (RS.nil (k1 _ _ ?_)))
 refine T.seq fun _ k2=>au 4 ?_
 refine T.joinE (σ:=Unit) (γ:=Unit) H Ex.go [(1,_),(2,_)] sb (fun _ _=>[]) (fun _ _=>Sat w [blk b1 [.int .i64 a0_p.id,.int .i64 a0_p.players,.int .i64 a0_p.delay,.int .i64 a0_p.turn,.int .i64 a0_p.said,.slice p0 a0_p.mine.length c0,.slice p1 a0_p.inputs.length c1,.slice p2 a0_p.has.length c2,.slice p3 a0_p.acked.length c3,.slice p4 a0_p.hashes.length c4,.bool a0_p.split] 89]) ?_ ?_
 ·rintro ⟨⟩ ⟨⟩ H
  try dsimp only [Ex.then] at H
  refine Cont.kq [1,2] ?_
  refine id (k2 _ _ ?_)
  refine T.seq fun _ k4=>dr mixed [0,0,0,1,0,0,0,0,1,0,0,1,0,1,0,0,0] ?_
  refine au 6 ?_
  obtain ⟨g5,H⟩:=gdE H
  obtain ⟨g6,H⟩:=gdE H
  refine RD.joinV 10 45 (.bool (decide (((a1_l.length:Int) = a0_p.players)∧((gi a1_l (a0_p.id - 1)) = a0_p.said)))) [] trivial ?_ ?_
  ·refine dp rfl (Pu.assign rfl) (RD.nil (k4 _ _ ?_))
   obtain rfl:=sj H
   refine T.rt (Cont.ret1 rfl rfl fun w' s=>?_)
   exact ⟨rfl,s.ext⟩
  intro hJ4
  refine RD.splitP 35 rfl (fun hc3=>?_) (fun hc3=>?_)
  ·refine au 3 ?_
   refine dp rfl (Pu.subS rfl rfl (g5 hc3)) ?_
   obtain ⟨bl7,ol8,rfl⟩:=R_ptr h5 (ne_of_pos (pos_of (g6 hc3)))
   refine dp rfl (Pu.indexSl sl35.h rfl rfl (g6 hc3)) (dq rfl (Qt.ld0 (α:=Int) (Rd.base h5) ty3.h rfl rfl (g6 hc3) (by rintro _ _ rfl; rfl)) (au 4 ?_))
   exact hJ4 _ ⟨dAndT hc3,trivial⟩
  refine au 10 ?_
  exact hJ4 _ ⟨dAndF hc3,trivial⟩
 intro z2 hz2 HX2 hJ2
 refine T.block ?_
 refine T.loopA (γ:=Unit) hz2 [(1,_),(2,_),(7,_),(8,_)] (fun v9 _=>[(9,.int .i64 v9)]) (fun v9 _=>Sat w [blk b1 [.int .i64 a0_p.id,.int .i64 a0_p.players,.int .i64 a0_p.delay,.int .i64 a0_p.turn,.int .i64 a0_p.said,.slice p0 a0_p.mine.length c0,.slice p1 a0_p.inputs.length c1,.slice p2 a0_p.has.length c2,.slice p3 a0_p.acked.length c3,.slice p4 a0_p.hashes.length c4,.bool a0_p.split] 89]) () sb sb (fun w s=>s) ?_
 rintro v9 ⟨⟩ y10 H hd2 KL2 hL2
 try dsimp only [Ex.then] at H
 refine kq [9,1,2,7,8] ?_
 refine au 2 ?_
 refine T.seq fun _ k6=>?_
 refine T.cP H rfl (fun hc11 H=>?_) (fun hc11 H=>?_)
 ·refine T.skip (k6 _ _ ?_)
  refine T.seq fun _ k7=>T.block (T.seq fun _ k8=>T.region ?_)
  obtain ⟨g12,H⟩:=gdE H
  obtain ⟨bl13,ol14,rfl⟩:=R_ptr h5 (ne_of_pos (pos_of g12))
  refine rp (Pu.indexSl sl35.h rfl rfl g12) (rq (Qt.ld0 (α:=Int) (Rd.base h5) ty3.h rfl rfl g12 (by rintro _ _ rfl; rfl)) (rA rfl (RS.nil (k8 _ _ (kq [1,2,6,7,8,9] ?_)))))
  refine T.seq fun _ k9=>T.region (au 3 ?_)
  obtain ⟨g15,H⟩:=gdE H
  refine rp (Pu.subS rfl rfl g15) (au 2 ?_)
  obtain ⟨g18,H⟩:=gdE H
  refine RS.joinV 6 24 (.bool (decide (((gi a1_l v9) < (a0_p.delay - 1)) ∨ ((a0_p.turn + 16) < (gi a1_l v9))))) [(1,_),(2,_),(6,_),(7,_),(8,_),(9,_)] sb ?_ ?_
  ·refine rM rfl ?_
   refine RS.joinV 3 28 (.bool (decide ((((gi a1_l v9) < (a0_p.delay - 1)) ∨ ((a0_p.turn + 16) < (gi a1_l v9))) ∨ (1099511627776 < (gi a1_l v9))))) [(1,_),(2,_),(7,_),(8,_),(9,_)] sb ?_ ?_
   ·refine RS.nil (k9 _ _ ?_)
    refine T.cP H rfl (fun hc21 H=>?_) (fun hc21 H=>?_)
    ·refine kq [] ?_
     refine au 2 ?_
     obtain rfl:=hd2 _ H
     have H:=HX2
     obtain rfl:=sj H
     refine T.rt (Cont.ret1 rfl rfl fun w' s=>?_)
     exact ⟨rfl,s.ext⟩
    refine T.skip (k7 _ _ ?_)
    refine T.region ?_
    obtain ⟨g22,H⟩:=gdE H
    refine rp (Pu.addS rfl rfl g22) (rM rfl (RS.nil (hL2 _ _ (v9 + 1) () H sb sb (fun w s=>s))))
   intro hJ20
   refine RS.splitP 25 rfl (fun hc19=>?_) (fun hc19=>?_)
   ·refine au 3 ?_
    exact hJ20 _ _ ⟨dOrT hc19,rfl,rfl,rfl,rfl,rfl,trivial⟩ (fun w s=>s)
   refine au 3 ?_
   exact hJ20 _ _ ⟨dOrF hc19,rfl,rfl,rfl,rfl,rfl,trivial⟩ (fun w s=>s)
  intro hJ17
  refine RS.splitP 18 rfl (fun hc16=>?_) (fun hc16=>?_)
  ·refine au 6 ?_
   exact hJ17 _ _ ⟨dOrT hc16,rfl,rfl,rfl,rfl,rfl,rfl,trivial⟩ (fun w s=>s)
  refine au 3 ?_
  refine rp (Pu.addS rfl rfl (g18 hc16)) (au 2 ?_)
  exact hJ17 _ _ ⟨dOrF hc16,rfl,rfl,rfl,rfl,rfl,rfl,trivial⟩ (fun w s=>s)
 obtain rfl:=hd2 _ H
 refine T.xt (hJ2 _ _ () () HX2 sb trivial (fun w s=>s))
theorem peer_mine_walk (a0_p:Per) (w:World) {v0 v1 v2 v3 v4:Value} (h0:R (hpOf w) a0_p.mine [v0]) (h1:R (hpOf w) a0_p.inputs [v1]) (h2:R (hpOf w) a0_p.has [v2]) (h3:R (hpOf w) a0_p.acked [v3]) (h4:R (hpOf w) a0_p.hashes [v4]) {r:Bool} (H:peer_mine a0_p = some r):Calls Tryz.prog 101 #[.agg #[.int .i64 a0_p.id,.int .i64 a0_p.players,.int .i64 a0_p.delay,.int .i64 a0_p.turn,.int .i64 a0_p.said,v0,v1,v2,v3,v4,.bool a0_p.split]] w fun e w'=>e = .returned (.bool r)∧Ext w w':=by
 have hm0:=R_max h0
 obtain ⟨p0,c0,rfl⟩:=R_form h0
 have hm1:=R_max h1
 obtain ⟨p1,c1,rfl⟩:=R_form h1
 have hm2:=R_max h2
 obtain ⟨p2,c2,rfl⟩:=R_form h2
 have hm3:=R_max h3
 obtain ⟨p3,c3,rfl⟩:=R_form h3
 have hm4:=R_max h4
 obtain ⟨p4,c4,rfl⟩:=R_form h4
 unfold peer_mine at H
 refine te Tryz.func101 (Sat.start w) ?_
 refine T.seq fun _ k1=>T.region (RS.solid (Sd.box (cs:=[_,_,_,_,_,_,_,_,_,_,_]) rfl rfl) rfl rfl fun b1=>rA rfl (RS.nil (k1 _ _ ?_)))
 refine T.seq fun _ k2=>T.seq fun _ k3=>dr mixed [0,1,0,0,1,0,1,1,0,0] ?_
 refine au 7 ?_
 obtain ⟨x2,hx2,H⟩:=bindE H
 refine dq rfl (Qt.call (vs:=[_]) ent99 rfl fun w s=>slices_Min_walk a0_p.acked w ((Rd.base h3) w s) hx2) ?_
 obtain ⟨g3,H⟩:=gdE H
 refine dp rfl (Pu.subS rfl rfl g3) (dp rfl (Pu.bin rfl rfl rfl) (RD.nil (k3 _ _ ?_)))
 refine T.cP H rfl (fun hc4 H=>?_) (fun hc4 H=>?_)
 ·refine kq [] ?_
  refine au 2 ?_
  obtain rfl:=sj H
  refine T.rt (Cont.ret1 rfl rfl fun w' s=>?_)
  exact ⟨rfl,s.ext⟩
 refine T.skip (k2 _ _ (kq [1] ?_))
 refine T.seq fun _ k5=>au 5 ?_
 refine T.joinE (σ:=Unit) (γ:=Unit) H Ex.go [] trivial (fun _ _=>[]) (fun _ _=>Sat w [blk b1 [.int .i64 a0_p.id,.int .i64 a0_p.players,.int .i64 a0_p.delay,.int .i64 a0_p.turn,.int .i64 a0_p.said,.slice p0 a0_p.mine.length c0,.slice p1 a0_p.inputs.length c1,.slice p2 a0_p.has.length c2,.slice p3 a0_p.acked.length c3,.slice p4 a0_p.hashes.length c4,.bool a0_p.split] 89]) ?_ ?_
 ·rintro ⟨⟩ ⟨⟩ H
  try dsimp only [Ex.then] at H
  refine Cont.kq [] ?_
  refine id (k5 _ _ ?_)
  refine au 2 ?_
  obtain rfl:=sj H
  refine T.rt (Cont.ret1 rfl rfl fun w' s=>?_)
  exact ⟨rfl,s.ext⟩
 intro z5 hz5 HX5 hJ5
 refine T.block ?_
 refine T.loopA (γ:=Unit) hz5 [(1,_),(16,_),(17,_)] (fun v6 _=>[(18,.int .i64 v6)]) (fun v6 _=>Sat w [blk b1 [.int .i64 a0_p.id,.int .i64 a0_p.players,.int .i64 a0_p.delay,.int .i64 a0_p.turn,.int .i64 a0_p.said,.slice p0 a0_p.mine.length c0,.slice p1 a0_p.inputs.length c1,.slice p2 a0_p.has.length c2,.slice p3 a0_p.acked.length c3,.slice p4 a0_p.hashes.length c4,.bool a0_p.split] 89]) () sb sb (fun w s=>s) ?_
 rintro v6 ⟨⟩ y7 H hd5 KL5 hL5
 try dsimp only [Ex.then] at H
 refine kq [18,1,16,17] ?_
 refine au 2 ?_
 refine T.seq fun _ k9=>?_
 refine T.cP H rfl (fun hc8 H=>?_) (fun hc8 H=>?_)
 ·refine T.skip (k9 _ _ ?_)
  refine T.seq fun _ k10=>T.block (T.seq fun _ k11=>T.region (rM rfl ?_))
  obtain ⟨g9,H⟩:=gdE H
  obtain ⟨bl10,ol11,rfl⟩:=R_ptr h0 (ne_of_pos (pos_of g9))
  refine rp (Pu.indexSl sl86.h rfl rfl g9) ?_
  obtain ⟨c12,hc13,ha14⟩:=R_el (α:=Inp) h0 g9
  obtain ⟨u15,rfl,hu15⟩:=hc13
  obtain ⟨p16,cc17,rfl⟩:=R_form hu15
  refine rq (Qt.ldZ (cs:=[_,_,_]) ty210.h rfl ha14 Held.base rfl) (RS.solid (Sd.alloc zr210 rfl) rfl rfl fun b18=>au 2 ?_)
  refine RS.nil (k11 _ _ (kq [1,3,4,16,17,18] ?_))
  refine T.seq fun _ k12=>T.region (rq (Qt.ldBA (us:=[_,_,_]) 1 ty210.h rfl rfl rfl rfl) ?_)
  obtain ⟨x19,hx19,H⟩:=bindE H
  refine rq (Qt.call (vs:=[_]) ent151 rfl fun w s=>turns_May_walk (gi a0_p.mine v6) w ((Rd.base hu15) w s) hx19) (au 2 ?_)
  refine RS.joinV 6 32 (.bool (decide (((!x19) = true) ∨ (¬ (gi a0_p.mine v6).player = a0_p.id)))) [(1,_),(3,_),(4,_),(16,_),(17,_),(18,_)] sb ?_ ?_
  ·refine rM rfl ?_
   obtain ⟨g24,H⟩:=gdE H
   obtain ⟨g25,H⟩:=gdE H
   obtain ⟨g26,H⟩:=gdE H
   refine RS.joinV 13 46 (.bool (decide ((((!x19) = true) ∨ (¬ (gi a0_p.mine v6).player = a0_p.id)) ∨ (¬ (gi a0_p.mine v6).turn = (((a0_p.said - (a0_p.mine.length:Int)) + 1) + v6))))) [(1,_),(16,_),(17,_),(18,_)] sb ?_ ?_
   ·refine RS.nil (k12 _ _ ?_)
    refine T.cP H rfl (fun hc27 H=>?_) (fun hc27 H=>?_)
    ·refine kq [] ?_
     refine au 2 ?_
     obtain rfl:=hd5 _ H
     have H:=HX5
     obtain rfl:=sj H
     refine T.rt (Cont.ret1 rfl rfl fun w' s=>?_)
     exact ⟨rfl,s.ext⟩
    refine T.skip (k10 _ _ ?_)
    refine T.region ?_
    obtain ⟨g28,H⟩:=gdE H
    refine rp (Pu.addS rfl rfl g28) (rM rfl (RS.nil (hL5 _ _ (v6 + 1) () H sb sb (fun w s=>s.pc [0]))))
   intro hJ23
   refine RS.splitP 33 rfl (fun hc22=>?_) (fun hc22=>?_)
   ·refine au 13 ?_
    exact hJ23 _ _ ⟨dOrT hc22,rfl,rfl,rfl,rfl,trivial⟩ (fun w s=>s)
   refine au 7 ?_
   refine rp (Pu.subS rfl rfl (g24 hc22)) (rp (Pu.addS rfl rfl (g25 hc22)) (rM rfl (rp (Pu.addS rfl rfl (g26 hc22)) (au 2 ?_))))
   exact hJ23 _ _ ⟨dOrF hc22,rfl,rfl,rfl,rfl,trivial⟩ (fun w s=>s)
  intro hJ21
  refine RS.split 26 rfl (fun hc20=>?_) (fun hc20=>?_)
  ·refine au 6 ?_
   exact hJ21 _ _ ⟨dOrT hc20,rfl,rfl,rfl,rfl,rfl,rfl,trivial⟩ (fun w s=>s)
  refine au 6 ?_
  exact hJ21 _ _ ⟨dOrF (bne_of hc20),rfl,rfl,rfl,rfl,rfl,rfl,trivial⟩ (fun w s=>s)
 obtain rfl:=hd5 _ H
 refine T.xt (hJ5 _ _ () () HX5 trivial trivial (fun w s=>s))
theorem peer_inputs_walk (a0_p:Per) (w:World) {v0 v1 v2 v3 v4:Value} (h0:R (hpOf w) a0_p.mine [v0]) (h1:R (hpOf w) a0_p.inputs [v1]) (h2:R (hpOf w) a0_p.has [v2]) (h3:R (hpOf w) a0_p.acked [v3]) (h4:R (hpOf w) a0_p.hashes [v4]) {r:Bool} (H:peer_inputs a0_p = some r):Calls Tryz.prog 103 #[.agg #[.int .i64 a0_p.id,.int .i64 a0_p.players,.int .i64 a0_p.delay,.int .i64 a0_p.turn,.int .i64 a0_p.said,v0,v1,v2,v3,v4,.bool a0_p.split]] w fun e w'=>e = .returned (.bool r)∧Ext w w':=by
 have hm0:=R_max h0
 obtain ⟨p0,c0,rfl⟩:=R_form h0
 have hm1:=R_max h1
 obtain ⟨p1,c1,rfl⟩:=R_form h1
 have hm2:=R_max h2
 obtain ⟨p2,c2,rfl⟩:=R_form h2
 have hm3:=R_max h3
 obtain ⟨p3,c3,rfl⟩:=R_form h3
 have hm4:=R_max h4
 obtain ⟨p4,c4,rfl⟩:=R_form h4
 unfold peer_inputs at H
 refine te Tryz.func103 (Sat.start w) ?_
 refine T.seq fun _ k1=>T.region (RS.solid (Sd.box (cs:=[_,_,_,_,_,_,_,_,_,_,_]) rfl rfl) rfl rfl fun b1=>rA rfl (RS.nil (k1 _ _ ?_)))
 refine T.seq fun _ k2=>T.seq fun _ k3=>T.region (au 4 ?_)
 refine RS.nil (k3 _ _ (kq [1,6,7,8] ?_))
 refine T.joinE (σ:=Unit) (γ:=Unit) H Ex.go [] trivial (fun _ _=>[]) (fun _ _=>Sat w [blk b1 [.int .i64 a0_p.id,.int .i64 a0_p.players,.int .i64 a0_p.delay,.int .i64 a0_p.turn,.int .i64 a0_p.said,.slice p0 a0_p.mine.length c0,.slice p1 a0_p.inputs.length c1,.slice p2 a0_p.has.length c2,.slice p3 a0_p.acked.length c3,.slice p4 a0_p.hashes.length c4,.bool a0_p.split] 89]) ?_ ?_
 ·rintro ⟨⟩ ⟨⟩ H
  try dsimp only [Ex.then] at H
  refine Cont.kq [] ?_
  refine id (k2 _ _ ?_)
  refine au 2 ?_
  obtain rfl:=sj H
  refine T.rt (Cont.ret1 rfl rfl fun w' s=>?_)
  exact ⟨rfl,s.ext⟩
 intro z2 hz2 HX2 hJ2
 refine T.block ?_
 refine T.loopA (γ:=Unit) hz2 [(1,_),(6,_),(7,_)] (fun v3 _=>[(8,.int .i64 v3)]) (fun v3 _=>Sat w [blk b1 [.int .i64 a0_p.id,.int .i64 a0_p.players,.int .i64 a0_p.delay,.int .i64 a0_p.turn,.int .i64 a0_p.said,.slice p0 a0_p.mine.length c0,.slice p1 a0_p.inputs.length c1,.slice p2 a0_p.has.length c2,.slice p3 a0_p.acked.length c3,.slice p4 a0_p.hashes.length c4,.bool a0_p.split] 89]) () sb sb (fun w s=>s) ?_
 rintro v3 ⟨⟩ y4 H hd2 KL2 hL2
 try dsimp only [Ex.then] at H
 refine kq [8,1,6,7] ?_
 refine au 2 ?_
 refine T.seq fun _ k6=>?_
 refine T.cP H rfl (fun hc5 H=>?_) (fun hc5 H=>?_)
 ·refine T.skip (k6 _ _ ?_)
  refine T.seq fun _ k7=>T.block (T.seq fun _ k8=>T.region ?_)
  obtain ⟨g6,H⟩:=gdE H
  obtain ⟨bl7,ol8,rfl⟩:=R_ptr h1 (ne_of_pos (pos_of g6))
  refine rp (Pu.indexSl sl86.h rfl rfl g6) ?_
  obtain ⟨c9,hc10,ha11⟩:=R_el (α:=Inp) h1 g6
  obtain ⟨u12,rfl,hu12⟩:=hc10
  obtain ⟨p13,cc14,rfl⟩:=R_form hu12
  refine rq (Qt.ldZ (cs:=[_,_,_]) ty210.h rfl ha11 Held.base rfl) (RS.solid (Sd.alloc zr210 rfl) rfl rfl fun b15=>RS.solid (Sd.stB (cs':=[_,_,_]) 1 ty210.h rfl rfl rfl rfl rfl rfl rfl rfl) rfl rfl fun _=>RS.nil (k8 _ _ (kq [1,4,6,7,8] ?_)))
  refine T.seq fun _ k9=>dr mixed [0,1,0,1,0,0,0,1,0,1,0,0,0,0,1,0,1,0,1,0,0,1,0,0] ?_
  refine au 6 ?_
  refine RD.joinV 6 23 (.bool (decide (((gi a0_p.inputs v3).turn < a0_p.turn) ∨ (a0_p.players < (gi a0_p.inputs v3).player)))) [(1,_),(4,_),(6,_),(7,_),(8,_)] sb ?_ ?_
  ·refine dp rfl (Pu.move rfl) ?_
   obtain ⟨g20,H⟩:=gdE H
   obtain ⟨g21,H⟩:=gdE H
   refine RD.joinV 11 35 (.bool (decide ((((gi a0_p.inputs v3).turn < a0_p.turn) ∨ (a0_p.players < (gi a0_p.inputs v3).player)) ∨ ((gi a0_p.has (((gi a0_p.inputs v3).player) - 1)) < (gi a0_p.inputs v3).turn)))) [(1,_),(6,_),(7,_),(8,_)] sb ?_ ?_
   ·refine RD.nil (k9 _ _ ?_)
    refine T.cP H rfl (fun hc22 H=>?_) (fun hc22 H=>?_)
    ·refine kq [] ?_
     refine au 2 ?_
     obtain rfl:=hd2 _ H
     have H:=HX2
     obtain rfl:=sj H
     refine T.rt (Cont.ret1 rfl rfl fun w' s=>?_)
     exact ⟨rfl,s.ext⟩
    refine T.skip (k7 _ _ ?_)
    refine T.region ?_
    obtain ⟨g23,H⟩:=gdE H
    refine rp (Pu.addS rfl rfl g23) (rM rfl (RS.nil (hL2 _ _ (v3 + 1) () H sb sb (fun w s=>s.pc [0]))))
   intro hJ19
   refine RD.splitP 24 rfl (fun hc18=>?_) (fun hc18=>?_)
   ·refine au 11 ?_
    exact hJ19 _ ⟨dOrT hc18,rfl,rfl,rfl,rfl,trivial⟩
   refine au 6 ?_
   refine dp rfl (Pu.subS rfl rfl (g20 hc18)) ?_
   obtain ⟨bl24,ol25,rfl⟩:=R_ptr h2 (ne_of_pos (pos_of (g21 hc18)))
   refine dp rfl (Pu.indexSl sl35.h rfl rfl (g21 hc18)) (dq rfl (Qt.ld0 (α:=Int) (Rd.base h2) ty3.h rfl rfl (g21 hc18) (by rintro _ _ rfl; rfl)) (au 2 ?_))
   exact hJ19 _ ⟨dOrF hc18,rfl,rfl,rfl,rfl,trivial⟩
  intro hJ17
  refine RD.splitP 17 rfl (fun hc16=>?_) (fun hc16=>?_)
  ·refine au 6 ?_
   exact hJ17 _ ⟨dOrT hc16,rfl,rfl,rfl,rfl,rfl,trivial⟩
  refine au 6 ?_
  exact hJ17 _ ⟨dOrF hc16,rfl,rfl,rfl,rfl,rfl,trivial⟩
 obtain rfl:=hd2 _ H
 refine T.xt (hJ2 _ _ () () HX2 trivial trivial (fun w s=>s))
theorem peer_May_walk (a0_p:Per) (w:World) {v0 v1 v2 v3 v4:Value} (h0:R (hpOf w) a0_p.mine [v0]) (h1:R (hpOf w) a0_p.inputs [v1]) (h2:R (hpOf w) a0_p.has [v2]) (h3:R (hpOf w) a0_p.acked [v3]) (h4:R (hpOf w) a0_p.hashes [v4]) {r:Bool} (H:peer_May a0_p = some r):Calls Tryz.prog 58 #[.agg #[.int .i64 a0_p.id,.int .i64 a0_p.players,.int .i64 a0_p.delay,.int .i64 a0_p.turn,.int .i64 a0_p.said,v0,v1,v2,v3,v4,.bool a0_p.split]] w fun e w'=>e = .returned (.bool r)∧Ext w w':=by
 have hm0:=R_max h0
 obtain ⟨p0,c0,rfl⟩:=R_form h0
 have hm1:=R_max h1
 obtain ⟨p1,c1,rfl⟩:=R_form h1
 have hm2:=R_max h2
 obtain ⟨p2,c2,rfl⟩:=R_form h2
 have hm3:=R_max h3
 obtain ⟨p3,c3,rfl⟩:=R_form h3
 have hm4:=R_max h4
 obtain ⟨p4,c4,rfl⟩:=R_form h4
 unfold peer_May at H
 refine te Tryz.func58 (Sat.start w) ?_
 refine T.seq fun _ k1=>T.region (RS.solid (Sd.box (cs:=[_,_,_,_,_,_,_,_,_,_,_]) rfl rfl) rfl rfl fun b1=>rA rfl (RS.nil (k1 _ _ ?_)))
 refine T.seq fun _ k2=>T.seq fun _ k3=>T.region (au 4 ?_)
 refine RS.joinV 4 10 (.bool (decide ((a0_p.players < 1) ∨ (8 < a0_p.players)))) [(1,_)] sb ?_ ?_
 ·refine rM rfl ?_
  refine RS.joinV 4 15 (.bool (decide (((a0_p.players < 1) ∨ (8 < a0_p.players)) ∨ (a0_p.id < 1)))) [(1,_)] sb ?_ ?_
  ·refine rM rfl ?_
   refine RS.joinV 6 22 (.bool (decide ((((a0_p.players < 1) ∨ (8 < a0_p.players)) ∨ (a0_p.id < 1)) ∨ (a0_p.players < a0_p.id)))) [(1,_)] sb ?_ ?_
   ·refine rM rfl ?_
    refine RS.joinV 4 27 (.bool (decide (((((a0_p.players < 1) ∨ (8 < a0_p.players)) ∨ (a0_p.id < 1)) ∨ (a0_p.players < a0_p.id)) ∨ (a0_p.delay < 1)))) [(1,_)] sb ?_ ?_
    ·refine rM rfl ?_
     refine RS.joinV 4 32 (.bool (decide ((((((a0_p.players < 1) ∨ (8 < a0_p.players)) ∨ (a0_p.id < 1)) ∨ (a0_p.players < a0_p.id)) ∨ (a0_p.delay < 1)) ∨ (8 < a0_p.delay)))) [(1,_)] sb ?_ ?_
     ·refine rM rfl ?_
      refine RS.joinV 4 37 (.bool (decide (((((((a0_p.players < 1) ∨ (8 < a0_p.players)) ∨ (a0_p.id < 1)) ∨ (a0_p.players < a0_p.id)) ∨ (a0_p.delay < 1)) ∨ (8 < a0_p.delay)) ∨ (a0_p.turn < 0)))) [(1,_)] sb ?_ ?_
      ·refine rM rfl ?_
       refine RS.joinV 4 42 (.bool (decide ((((((((a0_p.players < 1) ∨ (8 < a0_p.players)) ∨ (a0_p.id < 1)) ∨ (a0_p.players < a0_p.id)) ∨ (a0_p.delay < 1)) ∨ (8 < a0_p.delay)) ∨ (a0_p.turn < 0)) ∨ (1099511627776 < a0_p.turn)))) [(1,_)] sb ?_ ?_
       ·refine RS.nil (k3 _ _ ?_)
        refine T.cP H rfl (fun hc16 H=>?_) (fun hc16 H=>?_)
        ·refine au 2 ?_
         obtain rfl:=sj H
         refine T.rt (Cont.ret1 rfl rfl fun w' s=>?_)
         exact ⟨rfl,s.ext⟩
        refine T.skip (k2 _ _ ?_)
        refine T.seq fun _ k5=>T.seq fun _ k6=>T.region (au 4 ?_)
        obtain ⟨g17,H⟩:=gdE H
        refine rp (Pu.subS rfl rfl g17) (au 2 ?_)
        obtain ⟨g20,H⟩:=gdE H
        obtain ⟨g21,H⟩:=gdE H
        refine RS.joinV 10 59 (.bool (decide ((a0_p.said < (a0_p.delay - 1)) ∨ (((a0_p.turn + a0_p.delay) - 1) < a0_p.said)))) [(1,_)] sb ?_ ?_
        ·refine rM rfl ?_
         refine RS.joinV 4 64 (.bool (decide (((a0_p.said < (a0_p.delay - 1)) ∨ (((a0_p.turn + a0_p.delay) - 1) < a0_p.said)) ∨ (1099511627776 < a0_p.said)))) [(1,_)] sb ?_ ?_
         ·refine rM rfl ?_
          refine RS.joinB H 6 71 (fun b26=>.bool b26) [(1,_)] sb ?_ ?_
          ·intro b26 H
           refine rM rfl ?_
           refine RS.joinB H 6 78 (fun b29=>.bool b29) [(1,_)] sb ?_ ?_
           ·intro b29 H
            refine RS.nil (k6 _ _ ?_)
            refine T.cB H rfl (fun hc30 H=>?_) (fun hc30 H=>?_)
            ·refine au 2 ?_
             obtain rfl:=sj H
             refine T.rt (Cont.ret1 rfl rfl fun w' s=>?_)
             exact ⟨rfl,s.ext⟩
            refine T.skip (k5 _ _ ?_)
            refine T.seq fun _ k8=>T.seq fun _ k9=>dr mixed [0,1,1,0,1,0,0,0,0,1,1,0,1,0,0,0,0,1,0,0,0,0,0,1,0,0,1,0,0] ?_
            refine au 2 ?_
            obtain ⟨x31,hx31,H⟩:=bindE H
            refine dq rfl (Qt.call (vs:=[_]) ent99 rfl fun w s=>slices_Min_walk a0_p.has w ((Rd.base h2) w s) hx31) (au 2 ?_)
            obtain ⟨g32,H⟩:=gdE H
            refine dp rfl (Pu.subS rfl rfl g32) (au 2 ?_)
            refine RD.joinB H 7 93 (fun b35=>.bool b35) [(1,_)] sb ?_ ?_
            ·intro b35 H
             refine dp rfl (Pu.move rfl) ?_
             refine RD.joinV 5 99 (.bool (decide ((b35 = true) ∨ (16 < (a0_p.hashes.length:Int))))) [(1,_)] sb ?_ ?_
             ·refine dp rfl (Pu.move rfl) ?_
              refine RD.joinV 7 107 (.bool (decide (((b35 = true) ∨ (16 < (a0_p.hashes.length:Int))) ∨ (a0_p.turn < (a0_p.hashes.length:Int))))) [(1,_)] sb ?_ ?_
              ·refine RD.nil (k9 _ _ ?_)
               refine T.cP H rfl (fun hc40 H=>?_) (fun hc40 H=>?_)
               ·refine au 2 ?_
                obtain rfl:=sj H
                refine T.rt (Cont.ret1 rfl rfl fun w' s=>?_)
                exact ⟨rfl,s.ext⟩
               refine T.skip (k8 _ _ ?_)
               refine T.seq fun _ k11=>T.region (rq (Qt.ldBA (us:=[_,_,_,_,_,_,_,_,_,_,_]) 0 ty89.h rfl rfl rfl rfl) ?_)
               obtain ⟨x41,hx41,H⟩:=bindE H
               refine rq (Qt.call (vs:=[_]) ent101 rfl fun w s=>peer_mine_walk a0_p w ((Rd.base h0) w s) ((Rd.base h1) w s) ((Rd.base h2) w s) ((Rd.base h3) w s) ((Rd.base h4) w s) hx41) (rM rfl ?_)
               refine RS.joinB H 4 114 (fun b44=>.bool b44) [(1,_)] sb ?_ ?_
               ·intro b44 H
                refine rM rfl ?_
                refine RS.joinB H 3 118 (fun b47=>.bool b47) [] trivial ?_ ?_
                ·intro b47 H
                 refine rA rfl (RS.nil (k11 _ _ ?_))
                 obtain rfl:=sj H
                 refine T.rt (Cont.ret1 rfl rfl fun w' s=>?_)
                 exact ⟨rfl,s.ext⟩
                intro z48 H hJ46
                refine RS.split 115 rfl (fun hc45=>?_) (fun hc45=>?_)
                ·have H:=ifT hc45 H
                 refine rq (Qt.ldBA (us:=[_,_,_,_,_,_,_,_,_,_,_]) 0 ty89.h rfl rfl rfl rfl) ?_
                 obtain ⟨x49,hx49,H⟩:=bindE H
                 refine rq (Qt.call (vs:=[_]) ent103 rfl fun w s=>peer_inputs_walk a0_p w ((Rd.base h0) w s) ((Rd.base h1) w s) ((Rd.base h2) w s) ((Rd.base h3) w s) ((Rd.base h4) w s) hx49) (rp (Pu.pickT rfl rfl) ?_)
                 obtain rfl:=sj H
                 exact hJ46 _ _ sb (fun w s=>s)
                have H:=ifB hc45 H
                refine au 3 ?_
                obtain rfl:=sj H
                exact hJ46 _ _ sb (fun w s=>s)
               intro z50 H hJ43
               refine RS.split 110 rfl (fun hc42=>?_) (fun hc42=>?_)
               ·have H:=ifT hc42 H
                refine au 2 ?_
                obtain ⟨x51,hx51,H⟩:=bindE H
                refine rq (Qt.call (vs:=[_]) ent102 rfl fun w s=>turns_Rising_walk a0_p.inputs w ((Rd.base h1) w s) hx51) (rp (Pu.pickT rfl rfl) ?_)
                obtain rfl:=sj H
                exact hJ43 _ _ sb (fun w s=>s)
               have H:=ifB hc42 H
               refine au 4 ?_
               obtain rfl:=sj H
               exact hJ43 _ _ sb (fun w s=>s)
              intro hJ39
              refine RD.splitP 100 rfl (fun hc38=>?_) (fun hc38=>?_)
              ·refine au 7 ?_
               exact hJ39 _ ⟨dOrT hc38,rfl,trivial⟩
              refine au 7 ?_
              exact hJ39 _ ⟨dOrF hc38,rfl,trivial⟩
             intro hJ37
             refine RD.split 94 rfl (fun hc36=>?_) (fun hc36=>?_)
             ·refine au 5 ?_
              exact hJ37 _ ⟨dOrT hc36,rfl,trivial⟩
             refine au 5 ?_
             exact hJ37 _ ⟨dOrF (bne_of hc36),rfl,trivial⟩
            intro z52 H hJ34
            refine RD.splitP 86 rfl (fun hc33=>?_) (fun hc33=>?_)
            ·have H:=ifT hc33 H
             refine au 7 ?_
             obtain rfl:=sj H
             exact hJ34 _ sb
            have H:=ifF hc33 H
            refine au 2 ?_
            obtain ⟨x53,hx53,H⟩:=bindE H
            refine dq rfl (Qt.call (vs:=[_]) ent100 rfl fun w s=>slices_MaxI_walk a0_p.acked w ((Rd.base h3) w s) hx53) (au 4 ?_)
            obtain rfl:=sj H
            exact hJ34 _ sb
           intro z54 H hJ28
           refine RS.split 72 rfl (fun hc27=>?_) (fun hc27=>?_)
           ·have H:=ifT hc27 H
            refine au 6 ?_
            obtain rfl:=sj H
            exact hJ28 _ _ sb (fun w s=>s)
           have H:=ifB hc27 H
           refine au 3 ?_
           obtain ⟨x55,hx55,H⟩:=bindE H
           refine rq (Qt.call (vs:=[_,_]) ent98 rfl fun w s=>peer_counts_walk a0_p a0_p.acked w ((Rd.base h0) w s) ((Rd.base h1) w s) ((Rd.base h2) w s) ((Rd.base h3) w s) ((Rd.base h4) w s) ((Rd.base h3) w s) hx55) (au 2 ?_)
           obtain rfl:=sj H
           exact hJ28 _ _ sb (fun w s=>s)
          intro z56 H hJ25
          refine RS.splitP 65 rfl (fun hc24=>?_) (fun hc24=>?_)
          ·have H:=ifT hc24 H
           refine au 6 ?_
           obtain rfl:=sj H
           exact hJ25 _ _ sb (fun w s=>s)
          have H:=ifF hc24 H
          refine au 3 ?_
          obtain ⟨x57,hx57,H⟩:=bindE H
          refine rq (Qt.call (vs:=[_,_]) ent98 rfl fun w s=>peer_counts_walk a0_p a0_p.has w ((Rd.base h0) w s) ((Rd.base h1) w s) ((Rd.base h2) w s) ((Rd.base h3) w s) ((Rd.base h4) w s) ((Rd.base h2) w s) hx57) (au 2 ?_)
          obtain rfl:=sj H
          exact hJ25 _ _ sb (fun w s=>s)
         intro hJ23
         refine RS.splitP 60 rfl (fun hc22=>?_) (fun hc22=>?_)
         ·refine au 4 ?_
          exact hJ23 _ _ ⟨dOrT hc22,rfl,trivial⟩ (fun w s=>s)
         refine au 4 ?_
         exact hJ23 _ _ ⟨dOrF hc22,rfl,trivial⟩ (fun w s=>s)
        intro hJ19
        refine RS.splitP 49 rfl (fun hc18=>?_) (fun hc18=>?_)
        ·refine au 10 ?_
         exact hJ19 _ _ ⟨dOrT hc18,rfl,trivial⟩ (fun w s=>s)
        refine au 6 ?_
        refine rp (Pu.addS rfl rfl (g20 hc18)) (rp (Pu.subS rfl rfl (g21 hc18)) (au 2 ?_))
        exact hJ19 _ _ ⟨dOrF hc18,rfl,trivial⟩ (fun w s=>s)
       intro hJ15
       refine RS.splitP 38 rfl (fun hc14=>?_) (fun hc14=>?_)
       ·refine au 4 ?_
        exact hJ15 _ _ ⟨dOrT hc14,rfl,trivial⟩ (fun w s=>s)
       refine au 4 ?_
       exact hJ15 _ _ ⟨dOrF hc14,rfl,trivial⟩ (fun w s=>s)
      intro hJ13
      refine RS.splitP 33 rfl (fun hc12=>?_) (fun hc12=>?_)
      ·refine au 4 ?_
       exact hJ13 _ _ ⟨dOrT hc12,rfl,trivial⟩ (fun w s=>s)
      refine au 4 ?_
      exact hJ13 _ _ ⟨dOrF hc12,rfl,trivial⟩ (fun w s=>s)
     intro hJ11
     refine RS.splitP 28 rfl (fun hc10=>?_) (fun hc10=>?_)
     ·refine au 4 ?_
      exact hJ11 _ _ ⟨dOrT hc10,rfl,trivial⟩ (fun w s=>s)
     refine au 4 ?_
     exact hJ11 _ _ ⟨dOrF hc10,rfl,trivial⟩ (fun w s=>s)
    intro hJ9
    refine RS.splitP 23 rfl (fun hc8=>?_) (fun hc8=>?_)
    ·refine au 4 ?_
     exact hJ9 _ _ ⟨dOrT hc8,rfl,trivial⟩ (fun w s=>s)
    refine au 4 ?_
    exact hJ9 _ _ ⟨dOrF hc8,rfl,trivial⟩ (fun w s=>s)
   intro hJ7
   refine RS.splitP 16 rfl (fun hc6=>?_) (fun hc6=>?_)
   ·refine au 6 ?_
    exact hJ7 _ _ ⟨dOrT hc6,rfl,trivial⟩ (fun w s=>s)
   refine au 6 ?_
   exact hJ7 _ _ ⟨dOrF hc6,rfl,trivial⟩ (fun w s=>s)
  intro hJ5
  refine RS.splitP 11 rfl (fun hc4=>?_) (fun hc4=>?_)
  ·refine au 4 ?_
   exact hJ5 _ _ ⟨dOrT hc4,rfl,trivial⟩ (fun w s=>s)
  refine au 4 ?_
  exact hJ5 _ _ ⟨dOrF hc4,rfl,trivial⟩ (fun w s=>s)
 intro hJ3
 refine RS.splitP 6 rfl (fun hc2=>?_) (fun hc2=>?_)
 ·refine au 4 ?_
  exact hJ3 _ _ ⟨dOrT hc2,rfl,trivial⟩ (fun w s=>s)
 refine au 4 ?_
 exact hJ3 _ _ ⟨dOrF hc2,rfl,trivial⟩ (fun w s=>s)
theorem peer_Own_walk (a0_p:Per) (w:World) {v0 v1 v2 v3 v4:Value} (h0:R (hpOf w) a0_p.mine [v0]) (h1:R (hpOf w) a0_p.inputs [v1]) (h2:R (hpOf w) a0_p.has [v2]) (h3:R (hpOf w) a0_p.acked [v3]) (h4:R (hpOf w) a0_p.hashes [v4]) {r:Per} (H:peer_Own a0_p = some r):Calls Tryz.prog 155 #[.agg #[.int .i64 a0_p.id,.int .i64 a0_p.players,.int .i64 a0_p.delay,.int .i64 a0_p.turn,.int .i64 a0_p.said,v0,v1,v2,v3,v4,.bool a0_p.split]] w fun e w'=>∃ g:(Option Nat × Nat) × (Option Nat × Nat) × (Option Nat × Nat) × (Option Nat × Nat) × (Option Nat × Nat),e = .returned (.agg #[.int .i64 r.id,.int .i64 r.players,.int .i64 r.delay,.int .i64 r.turn,.int .i64 r.said,rowV g.1 r.mine.length,rowV g.2.1 r.inputs.length,rowV g.2.2.1 r.has.length,rowV g.2.2.2.1 r.acked.length,rowV g.2.2.2.2 r.hashes.length,.bool r.split])∧Sat w [drow 210 (rowV g.1 r.mine.length) r.mine,drow 210 (rowV g.2.1 r.inputs.length) r.inputs,row nilH 3 (rowV g.2.2.1 r.has.length) r.has,row nilH 3 (rowV g.2.2.2.1 r.acked.length) r.acked,row nilH 112 (rowV g.2.2.2.2 r.hashes.length) r.hashes] w':=by
 have hm0:=R_max h0
 obtain ⟨p0,c0,rfl⟩:=R_form h0
 have hm1:=R_max h1
 obtain ⟨p1,c1,rfl⟩:=R_form h1
 have hm2:=R_max h2
 obtain ⟨p2,c2,rfl⟩:=R_form h2
 have hm3:=R_max h3
 obtain ⟨p3,c3,rfl⟩:=R_form h3
 have hm4:=R_max h4
 obtain ⟨p4,c4,rfl⟩:=R_form h4
 unfold peer_Own at H
 refine te Tryz.func155 (Sat.start w) ?_
 refine T.seq fun _ k1=>T.region (RS.solid (Sd.box (cs:=[_,_,_,_,_,_,_,_,_,_,_]) rfl rfl) rfl rfl fun b1=>RS.solid (Sd.alloc zr89 rfl) rfl rfl fun b2=>RS.nil (k1 _ _ ?_))
 refine T.seq fun _ k2=>?_
 refine T.drawn (fun _=>True) [(0,.pu),(1,.rd),(3,.pu),(4,.rd),(2,.so),(6,.pu),(5,.so),(7,.br),(8,.pu),(9,.br)] mixed (ClE.sat _ _) (by kernel_rfl) ?_
 refine au 4 ?_
 obtain ⟨x3,hx3,H⟩:=bindE H
 refine RD.solid rfl (.inl rfl) rfl rfl (Sd.callN (vs:=[_]) ent223 rfl (fun w s=>turns_OwnAll_walk a0_p.mine w ((Rd.base h0) w s) hx3)) (fun _=>ClE.sat _ _) (fun _ _ _=>trivial) (fun _ _ _ s=>s.drop1) fun q4=>?_
 refine dp rfl (Pu.fieldAddr fd89_5.h rfl) ?_
 obtain ⟨x5,hx5,H⟩:=bindE H
 refine RD.solid rfl (.inl rfl) rfl rfl (Sd.callN (vs:=[_]) ent223 rfl (fun w s=>turns_OwnAll_walk a0_p.inputs w ((Rd.base h1) w s) hx5)) (fun _=>ClE.sat _ _) (fun _ _ _=>trivial) (fun _ _ _ s=>s.drop1) fun q6=>?_
 refine au 3 ?_
 refine RD.nil (k2 _ _ (kq [1,2] ?_))
 refine T.seq fun _ k3=>?_
 refine T.drawn (fun _=>True) [(0,.pu),(1,.rd),(3,.pu),(4,.rd),(6,.pu),(7,.rd),(2,.so),(9,.pu),(5,.so),(8,.so),(10,.br),(11,.pu),(12,.br),(13,.pu),(14,.br)] mixed (ClE.sat _ _) (by kernel_rfl) ?_
 refine au 6 ?_
 obtain ⟨x7,hx7,H⟩:=bindE H
 refine RD.solid rfl (.inl rfl) rfl rfl (Sd.callN (vs:=[_]) ent222 rfl (fun w s=>slices_Clone_Int_walk a0_p.has w ((Rd.base h2) w s) hx7)) (fun _=>ClE.sat _ _) (fun _ _ _=>trivial) (fun _ _ _ s=>s.drop1) fun q8=>?_
 refine dp rfl (Pu.fieldAddr fd89_7.h rfl) ?_
 obtain ⟨x9,hx9,H⟩:=bindE H
 refine RD.solid rfl (.inl rfl) rfl rfl (Sd.callN (vs:=[_]) ent222 rfl (fun w s=>slices_Clone_Int_walk a0_p.acked w ((Rd.base h3) w s) hx9)) (fun _=>ClE.sat _ _) (fun _ _ _=>trivial) (fun _ _ _ s=>s.drop1) fun q10=>?_
 obtain ⟨x11,hx11,H⟩:=bindE H
 refine RD.solid rfl (.inl rfl) rfl rfl (Sd.callN (vs:=[_]) ent224 rfl (fun w s=>slices_Clone_U64_walk a0_p.hashes w ((Rd.base h4) w s) hx11)) (fun _=>ClE.sat _ _) (fun _ _ _=>trivial) (fun _ _ _ s=>s.drop1) fun q12=>?_
 refine au 5 ?_
 refine RD.nil (k3 _ _ (kq [1,2] ?_))
 refine au 3 ?_
 obtain rfl:=sj H
 refine nz ?_
 refine T.rt (Cont.retC 1 rfl ty89.h rfl rfl rfl fun w' s=>?_)
 exact ⟨⟨q4,q6,q8,q10,q12⟩,rfl,s.pc [2,3,4,5,6]⟩
theorem peer_New_walk (a0_id:Int) (a1_players:Int) (a2_delay:Int) (w:World) {r:Per × Int} (H:peer_New a0_id a1_players a2_delay = some r):Calls Tryz.prog 29 #[.int .i64 a0_id,.int .i64 a1_players,.int .i64 a2_delay] w fun e w'=>∃ g:(Option Nat × Nat) × (Option Nat × Nat) × (Option Nat × Nat) × (Option Nat × Nat) × (Option Nat × Nat),e = .returned (.tuple #[.agg #[.int .i64 r.1.id,.int .i64 r.1.players,.int .i64 r.1.delay,.int .i64 r.1.turn,.int .i64 r.1.said,rowV g.1 r.1.mine.length,rowV g.2.1 r.1.inputs.length,rowV g.2.2.1 r.1.has.length,rowV g.2.2.2.1 r.1.acked.length,rowV g.2.2.2.2 r.1.hashes.length,.bool r.1.split],.int .i64 r.2])∧Sat w [drow 210 (rowV g.1 r.1.mine.length) r.1.mine,drow 210 (rowV g.2.1 r.1.inputs.length) r.1.inputs,row nilH 3 (rowV g.2.2.1 r.1.has.length) r.1.has,row nilH 3 (rowV g.2.2.2.1 r.1.acked.length) r.1.acked,row nilH 112 (rowV g.2.2.2.2 r.1.hashes.length) r.1.hashes] w':=by
 unfold peer_New at H
 refine te Tryz.func29 (Sat.start w) ?_
 refine T.seq fun _ k1=>T.region (RS.solid (Sd.alloc zr89 rfl) rfl rfl fun b1=>rA rfl (RS.nil (k1 _ _ ?_)))
 refine T.seq fun _ k2=>T.region (au 4 ?_)
 refine rp (Pu.subW rfl rfl) (rp (Pu.build (cells:=[_,_,_,_,_,_,_,_,_,_,_]) st89 rfl rfl) (RS.solid (Sd.alloc zr89 rfl) rfl rfl fun b2=>RS.solid (Sd.stB (cs':=[_,_,_,_,_,_,_,_,_,_,_]) 1 ty89.h rfl rfl rfl rfl rfl rfl rfl rfl) rfl rfl fun _=>RS.nil (k2 _ _ (kq [1,2,6,8] ?_))))
 refine T.seq fun _ k3=>T.seq fun _ k4=>T.region (au 3 ?_)
 refine RS.joinV 3 20 (.bool (decide ((1 ≤ a1_players)∧(a1_players ≤ 8)))) [(1,_),(2,_),(6,_),(8,_)] sb ?_ ?_
 ·refine RS.nil (k4 _ _ ?_)
  refine T.cP H rfl (fun hc5 H=>?_) (fun hc5 H=>?_)
  ·refine T.region (rM rfl (rp (Pu.subW rfl rfl) (RS.solid (Sd.litS (cs:=[_]) sl35.h zr3 rfl rfl rfl rfl rfl) rfl rfl fun b6=>?_)))
   refine RS.weakS (fun w s=>s.litRow (α:=Int) (n:=1) 2 ([(w64 (a2_delay - 1))]:List Int) rfl (by decide) rfl ⟨[_],_,rfl,rfl,rfl⟩) ?_
   refine rM rfl ?_
   obtain ⟨x7,hx7,H⟩:=bindE H
   refine RS.solid (Sd.callN (vs:=[_,_]) ent57 rfl (fun w s=>slices_Repeat_Int_walk ([(w64 (a2_delay - 1))]:List Int) a1_players w ((Rd.ofRowN 2 rfl) w s) hx7)) rfl rfl fun q8=>rM rfl (rp (Pu.subW rfl rfl) (RS.solid (Sd.litS (cs:=[_]) sl35.h zr3 rfl rfl rfl rfl rfl) rfl rfl fun b9=>?_))
   refine RS.weakS (fun w s=>s.litRow (α:=Int) (n:=1) 4 ([(w64 (a2_delay - 1))]:List Int) rfl (by decide) rfl ⟨[_],_,rfl,rfl,rfl⟩) ?_
   refine rM rfl ?_
   obtain ⟨x10,hx10,H⟩:=bindE H
   refine RS.solid (Sd.callN (vs:=[_,_]) ent57 rfl (fun w s=>slices_Repeat_Int_walk ([(w64 (a2_delay - 1))]:List Int) a1_players w ((Rd.ofRowN 4 rfl) w s) hx10)) rfl rfl fun q11=>au 4 ?_
   refine RS.nil (k3 _ _ (kq [6,8] ?_))
   refine T.seq fun _ k5=>T.seq fun _ k6=>T.region (rq (Qt.ldBA (us:=[_,_,_,_,_,_,_,_,_,_,_]) 1 ty89.h rfl rfl rfl rfl) ?_)
   obtain ⟨x12,hx12,H⟩:=bindE H
   refine rq (Qt.call (vs:=[_]) ent58 rfl fun w s=>peer_May_walk (⟨a0_id,a1_players,a2_delay,0,(w64 (a2_delay - 1)),[],[],x7,x10,[],false⟩:Per) w ((Rd.nil (α:=Inp)) w s) ((Rd.nil (α:=Inp)) w s) ((Rd.ofRowN 3 rfl) w s) ((Rd.ofRowN 5 rfl) w s) ((Rd.nil (α:=UInt64)) w s) hx12) (rp (Pu.not rfl) (RS.nil (k6 _ _ ?_)))
   refine T.cB H rfl (fun hc13 H=>?_) (fun hc13 H=>?_)
   ·refine kq [6] ?_
    refine T.seq fun _ k7=>T.region (rp (Pu.build (cells:=[_,_,_,_,_,_,_,_,_,_,_]) st89 rfl rfl) (au 2 ?_))
    refine RS.nil (k7 _ _ ?_)
    obtain rfl:=sj H
    refine T.rt (Cont.retCT 0 rfl ty89.h rfl rfl rfl rfl fun w' s=>?_)
    exact ⟨⟨(none,0),(none,0),(none,0),(none,0),(none,0)⟩,rfl,(((((s.nilRowG (α:=Inp) 210).nilRowG (α:=Inp) 210).nilRow (α:=Int) 3).nilRow (α:=Int) 3).nilRow (α:=UInt64) 112).pick [6,7,8,9,10] (by decide) rfl⟩
   refine T.skip (k5 _ _ (kq [6,8] ?_))
   refine au 4 ?_
   obtain rfl:=sj H
   refine T.rt (Cont.retCT 0 rfl ty89.h rfl rfl rfl rfl fun w' s=>?_)
   exact ⟨⟨(none,0),(none,0),q8,q11,(none,0)⟩,rfl,(((s.nilRowG (α:=Inp) 210).nilRowG (α:=Inp) 210).nilRow (α:=UInt64) 112).pick [6,7,3,5,8] (by decide) rfl⟩
  refine T.skip (k3 _ _ (kq [6,8] ?_))
  refine T.seq fun _ k9=>T.seq fun _ k10=>T.region (rq (Qt.ldBA (us:=[_,_,_,_,_,_,_,_,_,_,_]) 1 ty89.h rfl rfl rfl rfl) ?_)
  obtain ⟨x14,hx14,H⟩:=bindE H
  refine rq (Qt.call (vs:=[_]) ent58 rfl fun w s=>peer_May_walk (⟨a0_id,a1_players,a2_delay,0,(w64 (a2_delay - 1)),[],[],[],[],[],false⟩:Per) w ((Rd.nil (α:=Inp)) w s) ((Rd.nil (α:=Inp)) w s) ((Rd.nil (α:=Int)) w s) ((Rd.nil (α:=Int)) w s) ((Rd.nil (α:=UInt64)) w s) hx14) (rp (Pu.not rfl) (RS.nil (k10 _ _ ?_)))
  refine T.cB H rfl (fun hc15 H=>?_) (fun hc15 H=>?_)
  ·refine kq [6] ?_
   refine T.seq fun _ k11=>T.region (rp (Pu.build (cells:=[_,_,_,_,_,_,_,_,_,_,_]) st89 rfl rfl) (au 2 ?_))
   refine RS.nil (k11 _ _ ?_)
   obtain rfl:=sj H
   refine T.rt (Cont.retCT 0 rfl ty89.h rfl rfl rfl rfl fun w' s=>?_)
   exact ⟨⟨(none,0),(none,0),(none,0),(none,0),(none,0)⟩,rfl,(((((s.nilRowG (α:=Inp) 210).nilRowG (α:=Inp) 210).nilRow (α:=Int) 3).nilRow (α:=Int) 3).nilRow (α:=UInt64) 112).pick [2,3,4,5,6] (by decide) rfl⟩
  refine T.skip (k9 _ _ (kq [6,8] ?_))
  refine au 4 ?_
  obtain rfl:=sj H
  refine T.rt (Cont.retCT 0 rfl ty89.h rfl rfl rfl rfl fun w' s=>?_)
  exact ⟨⟨(none,0),(none,0),(none,0),(none,0),(none,0)⟩,rfl,(((((s.nilRowG (α:=Inp) 210).nilRowG (α:=Inp) 210).nilRow (α:=Int) 3).nilRow (α:=Int) 3).nilRow (α:=UInt64) 112).pick [2,3,4,5,6] (by decide) rfl⟩
 intro hJ4
 refine RS.splitP 17 rfl (fun hc3=>?_) (fun hc3=>?_)
 ·refine au 3 ?_
  exact hJ4 _ _ ⟨dAndT hc3,rfl,rfl,rfl,rfl,trivial⟩ (fun w s=>s)
 refine au 3 ?_
 exact hJ4 _ _ ⟨dAndF hc3,rfl,rfl,rfl,rfl,trivial⟩ (fun w s=>s)
theorem peer_can_walk (a0_p:Per) (w:World) {v0 v1 v2 v3 v4:Value} (h0:R (hpOf w) a0_p.mine [v0]) (h1:R (hpOf w) a0_p.inputs [v1]) (h2:R (hpOf w) a0_p.has [v2]) (h3:R (hpOf w) a0_p.acked [v3]) (h4:R (hpOf w) a0_p.hashes [v4]) {r:Bool} (H:peer_can a0_p = some r):Calls Tryz.prog 227 #[.agg #[.int .i64 a0_p.id,.int .i64 a0_p.players,.int .i64 a0_p.delay,.int .i64 a0_p.turn,.int .i64 a0_p.said,v0,v1,v2,v3,v4,.bool a0_p.split]] w fun e w'=>e = .returned (.bool r)∧Ext w w':=by
 have hm0:=R_max h0
 obtain ⟨p0,c0,rfl⟩:=R_form h0
 have hm1:=R_max h1
 obtain ⟨p1,c1,rfl⟩:=R_form h1
 have hm2:=R_max h2
 obtain ⟨p2,c2,rfl⟩:=R_form h2
 have hm3:=R_max h3
 obtain ⟨p3,c3,rfl⟩:=R_form h3
 have hm4:=R_max h4
 obtain ⟨p4,c4,rfl⟩:=R_form h4
 unfold peer_can at H
 refine te Tryz.func227 (Sat.start w) ?_
 refine T.seq fun _ k1=>T.region (RS.solid (Sd.box (cs:=[_,_,_,_,_,_,_,_,_,_,_]) rfl rfl) rfl rfl fun b1=>rA rfl (RS.nil (k1 _ _ ?_)))
 refine T.seq fun _ k2=>dr mixed [0,1,1,0,1,0,0,0,1,0,0,0] ?_
 refine au 2 ?_
 obtain ⟨x2,hx2,H⟩:=bindE H
 refine dq rfl (Qt.call (vs:=[_]) ent99 rfl fun w s=>slices_Min_walk a0_p.has w ((Rd.base h2) w s) hx2) (au 4 ?_)
 refine RD.joinV 4 13 (.bool (decide ((a0_p.turn ≤ x2)∧(a0_p.turn < 1099511627776)))) [(2,_)] sb ?_ ?_
 ·refine dp rfl (Pu.assign rfl) (RD.nil (k2 _ _ ?_))
  obtain rfl:=sj H
  refine T.rt (Cont.ret1 rfl rfl fun w' s=>?_)
  exact ⟨rfl,s.ext⟩
 intro hJ4
 refine RD.splitP 9 rfl (fun hc3=>?_) (fun hc3=>?_)
 ·refine au 4 ?_
  exact hJ4 _ ⟨dAndT hc3,rfl,trivial⟩
 refine au 4 ?_
 exact hJ4 _ ⟨dAndF hc3,rfl,trivial⟩
theorem peer_Ready_walk (a0_p:Per) (w:World) {v0 v1 v2 v3 v4:Value} (h0:R (hpOf w) a0_p.mine [v0]) (h1:R (hpOf w) a0_p.inputs [v1]) (h2:R (hpOf w) a0_p.has [v2]) (h3:R (hpOf w) a0_p.acked [v3]) (h4:R (hpOf w) a0_p.hashes [v4]) {r:List Cmd × Bool × Int} (H:peer_Ready a0_p = some r):Calls Tryz.prog 160 #[.agg #[.int .i64 a0_p.id,.int .i64 a0_p.players,.int .i64 a0_p.delay,.int .i64 a0_p.turn,.int .i64 a0_p.said,v0,v1,v2,v3,v4,.bool a0_p.split]] w fun e w'=>∃ q1:(Option Nat × Nat),e = .returned (.tuple #[rowV q1 r.1.length,.bool r.2.1,.int .i64 r.2.2])∧Sat w [drow 37 (rowV q1 r.1.length) r.1] w':=by
 have hm0:=R_max h0
 obtain ⟨p0,c0,rfl⟩:=R_form h0
 have hm1:=R_max h1
 obtain ⟨p1,c1,rfl⟩:=R_form h1
 have hm2:=R_max h2
 obtain ⟨p2,c2,rfl⟩:=R_form h2
 have hm3:=R_max h3
 obtain ⟨p3,c3,rfl⟩:=R_form h3
 have hm4:=R_max h4
 obtain ⟨p4,c4,rfl⟩:=R_form h4
 unfold peer_Ready at H
 refine te Tryz.func160 (Sat.start w) ?_
 refine T.seq fun _ k1=>T.region (RS.solid (Sd.box (cs:=[_,_,_,_,_,_,_,_,_,_,_]) rfl rfl) rfl rfl fun b1=>au 3 ?_)
 refine RS.nil (k1 _ _ (kq [1] ?_))
 refine T.seq fun _ k2=>T.block (T.seq fun _ k3=>T.region (rq (Qt.ldBA (us:=[_,_,_,_,_,_,_,_,_,_,_]) 0 ty89.h rfl rfl rfl rfl) ?_))
 obtain ⟨x2,hx2,H⟩:=bindE H
 refine rq (Qt.call (vs:=[_]) ent58 rfl fun w s=>peer_May_walk a0_p w ((Rd.base h0) w s) ((Rd.base h1) w s) ((Rd.base h2) w s) ((Rd.base h3) w s) ((Rd.base h4) w s) hx2) (au 2 ?_)
 refine RS.nil (k3 _ _ ?_)
 refine T.cB H rfl (fun hc3 H=>?_) (fun hc3 H=>?_)
 ·refine kq [] ?_
  refine au 4 ?_
  obtain rfl:=sj H
  refine T.rt (Cont.ret3 rfl rfl rfl rfl fun w' s=>?_)
  exact ⟨(none,0),rfl,(s.nilRowG (α:=Cmd) 37).pick [1] (by decide) rfl⟩
 refine kq [1] ?_
 refine T.seq fun _ k5=>T.region (rq (Qt.ldBA (us:=[_,_,_,_,_,_,_,_,_,_,_]) 0 ty89.h rfl rfl rfl rfl) ?_)
 obtain ⟨x4,hx4,H⟩:=bindE H
 refine rq (Qt.call (vs:=[_]) ent227 rfl fun w s=>peer_can_walk a0_p w ((Rd.base h0) w s) ((Rd.base h1) w s) ((Rd.base h2) w s) ((Rd.base h3) w s) ((Rd.base h4) w s) hx4) (au 2 ?_)
 refine RS.nil (k5 _ _ ?_)
 refine T.cB H rfl (fun hc5 H=>?_) (fun hc5 H=>?_)
 ·refine kq [] ?_
  refine au 4 ?_
  obtain rfl:=sj H
  refine T.rt (Cont.ret3 rfl rfl rfl rfl fun w' s=>?_)
  exact ⟨(none,0),rfl,(s.nilRowG (α:=Cmd) 37).pick [1] (by decide) rfl⟩
 refine T.skip (k2 _ _ (kq [1] ?_))
 refine T.seq fun _ k7=>T.region (au 4 ?_)
 obtain ⟨x6,hx6,H⟩:=bindE H
 refine RS.solid (Sd.callN (vs:=[_,_]) ent228 rfl (fun w s=>turns_Part_walk a0_p.inputs a0_p.turn w ((Rd.base h1) w s) hx6)) rfl rfl fun ⟨q7,q8⟩=>?_
 refine au 5 ?_
 refine RS.nil (k7 _ _ (kq [5] ?_))
 refine T.seq fun _ k8=>T.region (rM rfl ?_)
 obtain ⟨x9,hx9,H⟩:=bindE H
 refine RS.solid (Sd.callN (vs:=[_]) ent229 rfl (fun w s=>turns_All_walk x6.1 w ((Rd.ofG 1 rfl) w s) hx9)) rfl rfl fun q10=>au 3 ?_
 refine RS.nil (k8 _ _ (kq [2,3,4] ?_))
 obtain rfl:=sj H
 refine T.rt (Cont.ret3 rfl rfl rfl rfl fun w' s=>?_)
 exact ⟨q10,rfl,s.pc [3]⟩
theorem peer_Ran_walk (a0_p:Per) (a1_h:UInt64) (w:World) {v0 v1 v2 v3 v4:Value} (h0:R (hpOf w) a0_p.mine [v0]) (h1:R (hpOf w) a0_p.inputs [v1]) (h2:R (hpOf w) a0_p.has [v2]) (h3:R (hpOf w) a0_p.acked [v3]) (h4:R (hpOf w) a0_p.hashes [v4]) {r:Per × Int} (H:peer_Ran a0_p a1_h = some r):Calls Tryz.prog 162 #[.agg #[.int .i64 a0_p.id,.int .i64 a0_p.players,.int .i64 a0_p.delay,.int .i64 a0_p.turn,.int .i64 a0_p.said,v0,v1,v2,v3,v4,.bool a0_p.split],.int .u64 a1_h.toNat] w fun e w'=>∃ g:(Option Nat × Nat) × (Option Nat × Nat) × (Option Nat × Nat) × (Option Nat × Nat) × Value,e = .returned (.tuple #[.agg #[.int .i64 r.1.id,.int .i64 r.1.players,.int .i64 r.1.delay,.int .i64 r.1.turn,.int .i64 r.1.said,rowV g.1 r.1.mine.length,rowV g.2.1 r.1.inputs.length,rowV g.2.2.1 r.1.has.length,rowV g.2.2.2.1 r.1.acked.length,g.2.2.2.2,.bool r.1.split],.int .i64 r.2])∧Sat w [drow 210 (rowV g.1 r.1.mine.length) r.1.mine,drow 210 (rowV g.2.1 r.1.inputs.length) r.1.inputs,row nilH 3 (rowV g.2.2.1 r.1.has.length) r.1.has,row nilH 3 (rowV g.2.2.2.1 r.1.acked.length) r.1.acked,osl 112 (g.2.2.2.2) r.1.hashes] w':=by
 have hm0:=R_max h0
 obtain ⟨p0,c0,rfl⟩:=R_form h0
 have hm1:=R_max h1
 obtain ⟨p1,c1,rfl⟩:=R_form h1
 have hm2:=R_max h2
 obtain ⟨p2,c2,rfl⟩:=R_form h2
 have hm3:=R_max h3
 obtain ⟨p3,c3,rfl⟩:=R_form h3
 have hm4:=R_max h4
 obtain ⟨p4,c4,rfl⟩:=R_form h4
 unfold peer_Ran at H
 refine te Tryz.func162 (Sat.start w) ?_
 refine T.seq fun _ k1=>T.region (RS.solid (Sd.box (cs:=[_,_,_,_,_,_,_,_,_,_,_]) rfl rfl) rfl rfl fun b1=>RS.solid (Sd.alloc zr89 rfl) rfl rfl fun b2=>rA rfl (RS.nil (k1 _ _ ?_)))
 refine T.seq fun _ k2=>T.block (T.seq fun _ k3=>T.region (rq (Qt.ldBA (us:=[_,_,_,_,_,_,_,_,_,_,_]) 0 ty89.h rfl rfl rfl rfl) ?_))
 obtain ⟨x3,hx3,H⟩:=bindE H
 refine rq (Qt.call (vs:=[_]) ent58 rfl fun w s=>peer_May_walk a0_p w ((Rd.base h0) w s) ((Rd.base h1) w s) ((Rd.base h2) w s) ((Rd.base h3) w s) ((Rd.base h4) w s) hx3) (au 2 ?_)
 refine RS.nil (k3 _ _ ?_)
 refine T.cB H rfl (fun hc4 H=>?_) (fun hc4 H=>?_)
 ·refine kq [4] ?_
  refine T.seq fun _ k4=>T.region (rp (Pu.build (cells:=[_,_,_,_,_,_,_,_,_,_,_]) st89 rfl rfl) (au 2 ?_))
  refine RS.nil (k4 _ _ ?_)
  obtain rfl:=sj H
  refine T.rt (Cont.retCT 1 rfl ty89.h rfl rfl rfl rfl fun w' s=>?_)
  exact ⟨⟨(none,0),(none,0),(none,0),(none,0),(.slice none 0 0)⟩,rfl,(((((s.nilRowG (α:=Inp) 210).nilRowG (α:=Inp) 210).nilRow (α:=Int) 3).nilRow (α:=Int) 3).nilOsl (α:=UInt64) 112).pick [2,3,4,5,6] (by decide) rfl⟩
 refine kq [1,2,4] ?_
 refine T.seq fun _ k5=>T.region (rq (Qt.ldBA (us:=[_,_,_,_,_,_,_,_,_,_,_]) 0 ty89.h rfl rfl rfl rfl) ?_)
 obtain ⟨x5,hx5,H⟩:=bindE H
 refine rq (Qt.call (vs:=[_]) ent227 rfl fun w s=>peer_can_walk a0_p w ((Rd.base h0) w s) ((Rd.base h1) w s) ((Rd.base h2) w s) ((Rd.base h3) w s) ((Rd.base h4) w s) hx5) (au 2 ?_)
 refine RS.nil (k5 _ _ ?_)
 refine T.cB H rfl (fun hc6 H=>?_) (fun hc6 H=>?_)
 ·refine kq [4] ?_
  refine T.seq fun _ k6=>T.region (rp (Pu.build (cells:=[_,_,_,_,_,_,_,_,_,_,_]) st89 rfl rfl) (au 2 ?_))
  refine RS.nil (k6 _ _ ?_)
  obtain rfl:=sj H
  refine T.rt (Cont.retCT 1 rfl ty89.h rfl rfl rfl rfl fun w' s=>?_)
  exact ⟨⟨(none,0),(none,0),(none,0),(none,0),(.slice none 0 0)⟩,rfl,(((((s.nilRowG (α:=Inp) 210).nilRowG (α:=Inp) 210).nilRow (α:=Int) 3).nilRow (α:=Int) 3).nilOsl (α:=UInt64) 112).pick [2,3,4,5,6] (by decide) rfl⟩
 refine T.skip (k2 _ _ (kq [1,2,4] ?_))
 refine T.seq fun _ k7=>T.region (rq (Qt.ldBA (us:=[_,_,_,_,_,_,_,_,_,_,_]) 0 ty89.h rfl rfl rfl rfl) ?_)
 obtain ⟨x7,hx7,H⟩:=bindE H
 refine RS.solid (Sd.callN (vs:=[_]) ent155 rfl (fun w s=>peer_Own_walk a0_p w ((Rd.base h0) w s) ((Rd.base h1) w s) ((Rd.base h2) w s) ((Rd.base h3) w s) ((Rd.base h4) w s) hx7)) rfl rfl fun ⟨q8,q9,q10,q11,q12⟩=>?_
 refine RS.solid (Sd.stB (cs':=[_,_,_,_,_,_,_,_,_,_,_]) 0 ty89.h rfl rfl rfl rfl rfl rfl rfl rfl) rfl rfl fun _=>RS.nil (k7 _ _ ?_)
 refine T.seq fun _ k8=>nz ?_
 refine T.region (au 4 ?_)
 obtain ⟨x13,hx13,H⟩:=bindE H
 refine RS.solid (Sd.callN (vs:=[_,_]) ent228 rfl (fun w s=>turns_Part_walk x7.inputs x7.turn w ((Rd.ofG 3 rfl) w s) hx13)) rfl rfl fun ⟨q14,q15⟩=>?_
 refine au 5 ?_
 refine RS.nil (k8 _ _ (kq [1,2,4] ?_))
 refine T.seq fun _ k9=>nz ?_
 refine T.region (au 2 ?_)
 obtain ⟨g16,H⟩:=gdE H
 refine rp (Pu.addS rfl rfl g16) (au 2 ?_)
 refine RS.nil (k9 _ _ (kq [1,2,4] ?_))
 refine T.seq fun _ k10=>T.seq fun _ k11=>nz ?_
 refine T.region (au 3 ?_)
 refine RS.solid (Sd.litS (cs:=[_]) sl87.h zr112 rfl rfl rfl rfl rfl) rfl rfl fun b17=>?_
 obtain ⟨g19,H⟩:=gdE H
 refine RS.solid (Sd.app1c (α:=UInt64) 6 9 a1_h rfl rfl (nilH_lt _) sl87.h zr112 rfl rfl rfl rfl g19 (by decide)) rfl rfl fun q18=>au 2 ?_
 refine RS.nil (k11 _ _ (kq [2,4] ?_))
 refine au 5 ?_
 refine T.cP H rfl (fun hc20 H=>?_) (fun hc20 H=>?_)
 ·refine kq [2,4] ?_
  refine nz ?_
  refine T.region (au 2 ?_)
  obtain ⟨g21,H⟩:=gdE H
  refine RS.know (fun w s=>(s.row_fits (q:=q18) (m:=(x7.hashes ++ [a1_h]).length) (k:=6) rfl)) fun hf22=>?_
  refine rp (Pu.sliceL sl87.h rfl rfl g21) ?_
  refine RS.weakS (fun w s=>(Sat.oslDrop (sz:=1) 6 (1:Int).toNat (Sat.rowOsl (q:=q18) (m:=(x7.hashes ++ [a1_h]).length) 6 s rfl) rfl (le_nat g21) rfl)) ?_
  refine au 2 ?_
  refine RS.nil (k10 _ _ (kq [2,4] ?_))
  refine au 4 ?_
  obtain rfl:=sj H
  refine nz ?_
  refine T.rt (Cont.retCT 1 rfl ty89.h rfl rfl rfl rfl fun w' s=>?_)
  exact ⟨⟨q8,q15,q10,q11,(.slice (cutP (q18.1.map fun g=>(⟨g,0,none⟩:Addr)) q18.2 ((1:Int).toNat) 1) (((x7.hashes ++ [a1_h]).length) - (1:Int).toNat) (q18.2 - (1:Int).toNat))⟩,rfl,s.pc [2,8,4,5,6]⟩
 refine T.skip (k10 _ _ (kq [2,4] ?_))
 refine au 4 ?_
 obtain rfl:=sj H
 refine nz ?_
 refine T.rt (Cont.retCT 1 rfl ty89.h rfl rfl rfl rfl fun w' s=>?_)
 exact ⟨⟨q8,q15,q10,q11,(rowV q18 ((x7.hashes ++ [a1_h]).length))⟩,rfl,(Sat.rowOsl (q:=q18) (m:=(x7.hashes ++ [a1_h]).length) 6 s rfl).pick [2,8,4,5,6] (by decide) rfl⟩
theorem peer_Say_walk (a0_p:Per) (a1_l:List Cmd) (w:World) {v0 v1 v2 v3 v4 v5:Value} (h0:R (hpOf w) a0_p.mine [v0]) (h1:R (hpOf w) a0_p.inputs [v1]) (h2:R (hpOf w) a0_p.has [v2]) (h3:R (hpOf w) a0_p.acked [v3]) (h4:R (hpOf w) a0_p.hashes [v4]) (h5:R (hpOf w) a1_l [v5]) {r:Per × Int} (H:peer_Say a0_p a1_l = some r):Calls Tryz.prog 105 #[.agg #[.int .i64 a0_p.id,.int .i64 a0_p.players,.int .i64 a0_p.delay,.int .i64 a0_p.turn,.int .i64 a0_p.said,v0,v1,v2,v3,v4,.bool a0_p.split],v5] w fun e w'=>∃ g:(Option Nat × Nat) × (Option Nat × Nat) × (Option Nat × Nat) × (Option Nat × Nat) × (Option Nat × Nat),e = .returned (.tuple #[.agg #[.int .i64 r.1.id,.int .i64 r.1.players,.int .i64 r.1.delay,.int .i64 r.1.turn,.int .i64 r.1.said,rowV g.1 r.1.mine.length,rowV g.2.1 r.1.inputs.length,rowV g.2.2.1 r.1.has.length,rowV g.2.2.2.1 r.1.acked.length,rowV g.2.2.2.2 r.1.hashes.length,.bool r.1.split],.int .i64 r.2])∧Sat w [drow 210 (rowV g.1 r.1.mine.length) r.1.mine,drow 210 (rowV g.2.1 r.1.inputs.length) r.1.inputs,row nilH 3 (rowV g.2.2.1 r.1.has.length) r.1.has,row nilH 3 (rowV g.2.2.2.1 r.1.acked.length) r.1.acked,row nilH 112 (rowV g.2.2.2.2 r.1.hashes.length) r.1.hashes] w':=by
 have hm0:=R_max h0
 obtain ⟨p0,c0,rfl⟩:=R_form h0
 have hm1:=R_max h1
 obtain ⟨p1,c1,rfl⟩:=R_form h1
 have hm2:=R_max h2
 obtain ⟨p2,c2,rfl⟩:=R_form h2
 have hm3:=R_max h3
 obtain ⟨p3,c3,rfl⟩:=R_form h3
 have hm4:=R_max h4
 obtain ⟨p4,c4,rfl⟩:=R_form h4
 have hm5:=R_max h5
 obtain ⟨p5,c5,rfl⟩:=R_form h5
 unfold peer_Say at H
 refine te Tryz.func105 (Sat.start w) ?_
 refine T.seq fun _ k1=>T.region (RS.solid (Sd.box (cs:=[_,_,_,_,_,_,_,_,_,_,_]) rfl rfl) rfl rfl fun b1=>RS.solid (Sd.alloc zr89 rfl) rfl rfl fun b2=>rA rfl (RS.nil (k1 _ _ ?_)))
 refine T.seq fun _ k2=>T.block (T.seq fun _ k3=>T.region (rq (Qt.ldBA (us:=[_,_,_,_,_,_,_,_,_,_,_]) 0 ty89.h rfl rfl rfl rfl) ?_))
 obtain ⟨x3,hx3,H⟩:=bindE H
 refine rq (Qt.call (vs:=[_]) ent58 rfl fun w s=>peer_May_walk a0_p w ((Rd.base h0) w s) ((Rd.base h1) w s) ((Rd.base h2) w s) ((Rd.base h3) w s) ((Rd.base h4) w s) hx3) (au 2 ?_)
 refine RS.nil (k3 _ _ ?_)
 refine T.cB H rfl (fun hc4 H=>?_) (fun hc4 H=>?_)
 ·refine kq [4] ?_
  refine T.seq fun _ k4=>T.region (rp (Pu.build (cells:=[_,_,_,_,_,_,_,_,_,_,_]) st89 rfl rfl) (au 2 ?_))
  refine RS.nil (k4 _ _ ?_)
  obtain rfl:=sj H
  refine T.rt (Cont.retCT 1 rfl ty89.h rfl rfl rfl rfl fun w' s=>?_)
  exact ⟨⟨(none,0),(none,0),(none,0),(none,0),(none,0)⟩,rfl,(((((s.nilRowG (α:=Inp) 210).nilRowG (α:=Inp) 210).nilRow (α:=Int) 3).nilRow (α:=Int) 3).nilRow (α:=UInt64) 112).pick [2,3,4,5,6] (by decide) rfl⟩
 refine kq [1,2,4] ?_
 refine T.seq fun _ k5=>T.region (au 6 ?_)
 obtain ⟨g5,H⟩:=gdE H
 refine rp (Pu.addS rfl rfl g5) ?_
 obtain ⟨g6,H⟩:=gdE H
 refine rp (Pu.subS rfl rfl g6) (au 2 ?_)
 refine RS.joinV 4 26 (.bool (decide ((a0_p.said = ((a0_p.turn + a0_p.delay) - 1)) ∨ (a0_p.said = 1099511627776)))) [(1,_),(2,_),(4,_)] sb ?_ ?_
 ·refine rA rfl (RS.nil (k5 _ _ ?_))
  refine T.cP H rfl (fun hc9 H=>?_) (fun hc9 H=>?_)
  ·refine kq [4] ?_
   refine T.seq fun _ k6=>T.region (rp (Pu.build (cells:=[_,_,_,_,_,_,_,_,_,_,_]) st89 rfl rfl) (au 2 ?_))
   refine RS.nil (k6 _ _ ?_)
   obtain rfl:=sj H
   refine T.rt (Cont.retCT 1 rfl ty89.h rfl rfl rfl rfl fun w' s=>?_)
   exact ⟨⟨(none,0),(none,0),(none,0),(none,0),(none,0)⟩,rfl,(((((s.nilRowG (α:=Inp) 210).nilRowG (α:=Inp) 210).nilRow (α:=Int) 3).nilRow (α:=Int) 3).nilRow (α:=UInt64) 112).pick [2,3,4,5,6] (by decide) rfl⟩
  refine T.seq fun _ k7=>T.region (au 3 ?_)
  obtain ⟨x10,hx10,H⟩:=bindE H
  refine rq (Qt.call (vs:=[_,_]) ent154 rfl fun w s=>turns_Said_walk a0_p.id a1_l w ((Rd.base h5) w s) hx10) (au 2 ?_)
  refine RS.nil (k7 _ _ ?_)
  refine T.cB H rfl (fun hc11 H=>?_) (fun hc11 H=>?_)
  ·refine kq [4] ?_
   refine T.seq fun _ k8=>T.region (rp (Pu.build (cells:=[_,_,_,_,_,_,_,_,_,_,_]) st89 rfl rfl) (au 2 ?_))
   refine RS.nil (k8 _ _ ?_)
   obtain rfl:=sj H
   refine T.rt (Cont.retCT 1 rfl ty89.h rfl rfl rfl rfl fun w' s=>?_)
   exact ⟨⟨(none,0),(none,0),(none,0),(none,0),(none,0)⟩,rfl,(((((s.nilRowG (α:=Inp) 210).nilRowG (α:=Inp) 210).nilRow (α:=Int) 3).nilRow (α:=Int) 3).nilRow (α:=UInt64) 112).pick [2,3,4,5,6] (by decide) rfl⟩
  refine T.skip (k2 _ _ (kq [1,2,4] ?_))
  refine T.seq fun _ k9=>T.region (rq (Qt.ldBA (us:=[_,_,_,_,_,_,_,_,_,_,_]) 0 ty89.h rfl rfl rfl rfl) ?_)
  obtain ⟨x12,hx12,H⟩:=bindE H
  refine RS.solid (Sd.callN (vs:=[_]) ent155 rfl (fun w s=>peer_Own_walk a0_p w ((Rd.base h0) w s) ((Rd.base h1) w s) ((Rd.base h2) w s) ((Rd.base h3) w s) ((Rd.base h4) w s) hx12)) rfl rfl fun ⟨q13,q14,q15,q16,q17⟩=>?_
  refine RS.solid (Sd.stB (cs':=[_,_,_,_,_,_,_,_,_,_,_]) 0 ty89.h rfl rfl rfl rfl rfl rfl rfl rfl) rfl rfl fun _=>RS.nil (k9 _ _ ?_)
  refine T.seq fun _ k10=>nz ?_
  refine T.region (au 2 ?_)
  obtain ⟨g18,H⟩:=gdE H
  refine rp (Pu.addS rfl rfl g18) (au 2 ?_)
  refine RS.nil (k10 _ _ (kq [1,2,4] ?_))
  refine T.seq fun _ k11=>nz ?_
  refine T.region (au 5 ?_)
  refine rp (Pu.build (cells:=[_,_,_]) st210 rfl rfl) (RS.solid (Sd.alloc zr210 rfl) rfl rfl fun b19=>RS.solid (Sd.stB (cs':=[_,_,_]) 7 ty210.h rfl rfl rfl rfl rfl rfl rfl rfl) rfl rfl fun _=>RS.nil (k11 _ _ (kq [2,4,6] ?_)))
  refine T.seq fun _ k12=>nz ?_
  refine T.region (au 3 ?_)
  obtain ⟨x20,hx20,H⟩:=bindE H
  refine RS.solid (Sd.callN (vs:=[_,_]) ent156 rfl (fun w s=>turns_In_walk x12.inputs (⟨(x12.said + 1),x12.id,a1_l⟩:Inp) w ((Rd.ofG 3 rfl) w s) ((Rd.base h5) w s) hx20)) rfl rfl fun q21=>au 5 ?_
  refine RS.nil (k12 _ _ (kq [2,4,6] ?_))
  refine T.seq fun _ k13=>au 4 ?_
  refine T.joinE (σ:=List Inp) (γ:=(Option Nat × Nat)) H (fun s=>s) [(2,_),(4,_)] sb (fun v23 q24=>[]) (fun v23 q24=>Sat w [blk b1 [.int .i64 x12.id,.int .i64 x12.players,.int .i64 x12.delay,.int .i64 x12.turn,.int .i64 (x12.said + 1),rowV q24 v23.length,rowV q21 x20.1.length,rowV q15 x12.has.length,rowV q16 x12.acked.length,rowV q17 x12.hashes.length,.bool x12.split] 89,blk b2 [.int .i64 0,.int .i64 0,.int .i64 0,.int .i64 0,.int .i64 0,.slice none 0 0,.slice none 0 0,.slice none 0 0,.slice none 0 0,.slice none 0 0,.bool false] 89,drow 210 (rowV q24 v23.length) v23,drow 210 (rowV q14 x12.inputs.length) x12.inputs,row nilH 3 (rowV q15 x12.has.length) x12.has,row nilH 3 (rowV q16 x12.acked.length) x12.acked,row nilH 112 (rowV q17 x12.hashes.length) x12.hashes,blk b19 [.int .i64 (x12.said + 1),.int .i64 x12.id,.slice p5 a1_l.length c5] 210,drow 210 (rowV q21 x20.1.length) x20.1]) ?_ ?_
  ·rintro v23 q24 H
   try dsimp only [Ex.then] at H
   refine Cont.kq [2,4] ?_
   refine id (k13 _ _ ?_)
   refine T.seq fun _ k15=>nz ?_
   refine drS mixed [0,1,2,3,6,7,8] [0,1,0,1,0,0,2,0,2,0,0,1,0,2,0,4,0,4] ?_
   refine au 4 ?_
   obtain ⟨g25,H⟩:=gdE H
   refine RD.p (fun w s=>s.pc [0,1,2,3,6,7,8]) rfl (Pu.subS rfl rfl g25) rfl rfl (au 4 ?_)
   obtain ⟨g26,H⟩:=gdE H
   refine RD.p (fun w s=>s.pc [0,1,2,3,6,7,8]) rfl (Pu.subS rfl rfl g26) rfl rfl (au 4 ?_)
   obtain ⟨g27,H⟩:=gdE H
   refine RD.know (p:=∃ g cap,q15 = (some g,cap)) (fun w s=>(s.row_some (k:=4) rfl (pos_of g27))) ?_
   rintro ⟨gg28,cc29,rfl⟩
   refine RD.p (fun w s=>s.pc [0,1,2,3,6,7,8]) rfl (Pu.indexSl sl35.h rfl rfl g27) rfl rfl (RD.solid rfl (.inr rfl) rfl rfl (Sd.st0 (α:=Int) 4 (x12.said + 1) rfl ty3.h rfl rfl rfl g27 rfl rfl (by decide) rfl (by rintro _ _ rfl; rfl)) (fun _=>ClE.sat _ _) (fun _ w s=>s.pc [0,1,2,3,6,7,8]) (fun h=>nomatch h) fun _=>?_)
   obtain ⟨g30,H⟩:=gdE H
   refine RD.know (p:=∃ g cap,q16 = (some g,cap)) (fun w s=>(s.row_some (k:=5) rfl (pos_of g30))) ?_
   rintro ⟨gg31,cc32,rfl⟩
   refine RD.p (fun w s=>s.pc [0,1,2,3,6,7,8]) rfl (Pu.indexSl sl35.h rfl rfl g30) rfl rfl (RD.solid rfl (.inr rfl) rfl rfl (Sd.st0 (α:=Int) 5 (x12.said + 1) rfl ty3.h rfl rfl rfl g30 rfl rfl (by decide) rfl (by rintro _ _ rfl; rfl)) (fun _=>ClE.sat _ _) (fun _ w s=>s.pc [0,1,2,3,6,7,8]) (fun h=>nomatch h) fun _=>?_)
   refine RD.nil (k15 _ _ (kq [2,4] ?_))
   refine au 4 ?_
   obtain rfl:=sj H
   refine nz ?_
   refine T.rt (Cont.retCT 1 rfl ty89.h rfl rfl rfl rfl fun w' s=>?_)
   exact ⟨⟨q24,q21,(some gg28,cc29),(some gg31,cc32),q17⟩,(by simp only [(s.row_fits (q:=(some gg28,cc29)) (m:=x12.has.length) (k:=4) rfl).1,(s.row_fits (q:=(some gg31,cc32)) (m:=x12.acked.length) (k:=5) rfl).1]; try rfl),(Sat.relen (q:=(some gg31,cc32)) (m:=x12.acked.length) 5 (Sat.relen (q:=(some gg28,cc29)) (m:=x12.has.length) 4 s rfl) rfl).pick [2,8,4,5,6] (by decide) rfl⟩
  intro z22 H HX22 hJ22
  refine T.cP H rfl (fun hc33 H=>?_) (fun hc33 H=>?_)
  ·refine kq [2,4,6] ?_
   refine nz ?_
   refine drS mixed [1,3,4,5,6,7,8] [0,1,2,3,3,4,0,4] ?_
   refine au 3 ?_
   obtain ⟨x34,hx34,H⟩:=bindE H
   refine RD.solid rfl (.inl rfl) rfl rfl (Sd.callN (vs:=[_]) ent157 rfl (fun w s=>turns_Own_walk (⟨(x12.said + 1),x12.id,a1_l⟩:Inp) w ((Rd.base h5) w s) hx34)) (fun _=>ClE.sat _ _) (fun _ w s=>s.pc [1,3,4,5,6,7,8]) (fun _ _ _ s=>s.drop1) fun q35=>?_
   refine RD.solid rfl (.inl rfl) rfl rfl (Sd.litS (cs:=[_,_,_]) sl86.h zr210 rfl rfl rfl rfl rfl) (fun _=>ClE.sat _ _) (fun _ w s=>s.pc [1,3,4,5,6,7,8]) (fun _ _ _ s=>s.drop1) fun b36=>?_
   obtain ⟨g38,H⟩:=gdE H
   dsimp only [List.set,List.cons_append,List.nil_append,List.append_assoc]
   refine RD.solid rfl (.inr rfl) rfl rfl (Sd.pre (fun w s=>(Sat.starAt 9 11 (Sat.starAt 9 12 ((s.noStars).noStars) rfl rfl (by decide)) rfl rfl (by decide))) (Sd.appL (α:=Inp) 2 10 9 ([x34]:List Inp) rfl rfl rfl (DRF.cons' (α:=Inp) (x:=x34) (fun _ h=>⟨_,rfl,h⟩) DRF.nil') rfl sl86.h zr210 rfl rfl rfl rfl g38 (by decide))) (fun _=>ClE.sat _ _) (fun _ w s=>s.pc [1,3,4,5,6,7,8]) (fun h=>nomatch h) fun q37=>?_
   dsimp only [List.set,List.cons_append,List.nil_append,List.append_assoc]
   refine au 2 ?_
   obtain rfl:=sj H
   refine RD.nil (hJ22 _ _ (x12.mine ++ ([x34]:List Inp)) q37 HX22 sb trivial (fun w s=>s.pc [0,1,2,3,4,5,6,7,8]))
  obtain rfl:=sj H
  refine T.skip (hJ22 _ _ x12.mine q13 HX22 sb trivial (fun w s=>s))
 intro hJ8
 refine RS.splitP 22 rfl (fun hc7=>?_) (fun hc7=>?_)
 ·refine au 4 ?_
  exact hJ8 _ _ ⟨dOrT hc7,rfl,rfl,rfl,trivial⟩ (fun w s=>s)
 refine au 4 ?_
 exact hJ8 _ _ ⟨dOrF hc7,rfl,rfl,rfl,trivial⟩ (fun w s=>s)
theorem slices_IndexFuncI_walk (a0_s:List Inp) (a1_f:Inp→Option Bool) (w:World) {v0 v1:Value} (h0:R (hpOf w) a0_s [v0]) (h1:FnR Tryz.prog w v1 (fun (y0:Inp) c=>∃ u0:Value,c = [.agg #[.int .i64 y0.turn,.int .i64 y0.player,u0]]) (fun (r:Bool)=>.bool r) a1_f) {r:Int} (H:slices_IndexFuncI a0_s a1_f = some r):Calls Tryz.prog 158 #[v0,v1] w fun e w'=>e = .returned (.int .i64 r)∧Ext w w':=by
 have hm0:=R_max h0
 obtain ⟨p0,c0,rfl⟩:=R_form h0
 unfold slices_IndexFuncI at H
 refine te Tryz.func158 (Sat.start w) ?_
 refine au 2 ?_
 refine T.seq fun _ k2=>au 4 ?_
 refine T.joinE (σ:=Unit) (γ:=Unit) H Ex.go [] trivial (fun _ _=>[]) (fun _ _=>Sat w []) ?_ ?_
 ·rintro ⟨⟩ ⟨⟩ H
  try dsimp only [Ex.then] at H
  refine Cont.kq [] ?_
  refine id (k2 _ _ ?_)
  refine au 2 ?_
  obtain rfl:=sj H
  refine T.rt (Cont.ret1 rfl rfl fun w' s=>?_)
  exact ⟨rfl,s.ext⟩
 intro z1 hz1 HX1 hJ1
 refine T.block ?_
 refine T.loopA (γ:=Unit) hz1 [(0,_),(1,_),(7,_)] (fun v2 _=>[(8,.int .i64 v2)]) (fun v2 _=>Sat w []) () sb sb (fun w s=>s) ?_
 rintro v2 ⟨⟩ y3 H hd1 KL1 hL1
 try dsimp only [Ex.then] at H
 refine kq [8,0,1,7] ?_
 refine au 2 ?_
 refine T.seq fun _ k6=>?_
 refine T.cP H rfl (fun hc4 H=>?_) (fun hc4 H=>?_)
 ·refine T.skip (k6 _ _ ?_)
  refine T.seq fun _ k7=>T.block (au 3 ?_)
  refine T.seq fun _ k9=>T.region (au 3 ?_)
  obtain ⟨g5,H⟩:=gdE H
  obtain ⟨bl6,ol7,rfl⟩:=R_ptr h0 (ne_of_pos (pos_of g5))
  refine rp (Pu.indexSl sl86.h rfl rfl g5) ?_
  obtain ⟨c8,hc9,ha10⟩:=R_el (α:=Inp) h0 g5
  obtain ⟨u11,rfl,hu11⟩:=hc9
  obtain ⟨p12,cc13,rfl⟩:=R_form hu11
  refine rq (Qt.ldZ (cs:=[_,_,_]) ty210.h rfl ha10 Held.base rfl) ?_
  obtain ⟨x14,hx14,H⟩:=bindE H
  refine rq (Qt.callR rfl h1 (fun w s=>s.ext) hx14 rfl ⟨_,rfl⟩) (RS.nil (k9 _ _ ?_))
  refine T.cB H rfl (fun hc15 H=>?_) (fun hc15 H=>?_)
  ·refine kq [5] ?_
   refine au 3 ?_
   obtain rfl:=hd1 _ H
   have H:=HX1
   obtain rfl:=sj H
   refine T.rt (Cont.ret1 rfl rfl fun w' s=>?_)
   exact ⟨rfl,s.ext⟩
  refine T.skip (k7 _ _ (kq [0,1,7,8] ?_))
  refine T.region ?_
  obtain ⟨g16,H⟩:=gdE H
  refine rp (Pu.addS rfl rfl g16) (rM rfl (RS.nil (hL1 _ _ (v2 + 1) () H sb sb (fun w s=>s))))
 obtain rfl:=hd1 _ H
 refine T.xt (hJ1 _ _ () () HX1 trivial trivial (fun w s=>s))
theorem peer_Notes_1_walk (a0_i:Inp) (cv0:Per) (cv1:Int) (w:World) {v0 v1 v2 v3 v4 v5:Value} {p1g p2g:Nat} (hb1:blk p1g [.int .i64 cv0.id,.int .i64 cv0.players,.int .i64 cv0.delay,.int .i64 cv0.turn,.int .i64 cv0.said,v1,v2,v3,v4,v5,.bool cv0.split] 89 (hpOf w)) (h1:R (hpOf w) cv0.mine [v1]) (h2:R (hpOf w) cv0.inputs [v2]) (h3:R (hpOf w) cv0.has [v3]) (h4:R (hpOf w) cv0.acked [v4]) (h5:R (hpOf w) cv0.hashes [v5]) (hb2:blk p2g [.int .i64 cv1] 3 (hpOf w)) {r:Bool} (H:peer_Notes_1 a0_i cv0 cv1 = some r):Calls Tryz.prog 159 #[.agg #[.int .i64 a0_i.turn,.int .i64 a0_i.player,v0],.pointer (some ⟨p1g,0,none⟩),.pointer (some ⟨p2g,0,none⟩)] w fun e w'=>e = .returned (.bool r)∧Ext w w':=by
 have hm1:=R_max h1
 obtain ⟨p1,c1,rfl⟩:=R_form h1
 have hm2:=R_max h2
 obtain ⟨p2,c2,rfl⟩:=R_form h2
 have hm3:=R_max h3
 obtain ⟨p3,c3,rfl⟩:=R_form h3
 have hm4:=R_max h4
 obtain ⟨p4,c4,rfl⟩:=R_form h4
 have hm5:=R_max h5
 obtain ⟨p5,c5,rfl⟩:=R_form h5
 unfold peer_Notes_1 at H
 refine te Tryz.func159 (Sat.start w) ?_
 refine T.seq fun _ k1=>T.region (RS.solid (Sd.box (cs:=[_,_,_]) rfl rfl) rfl rfl fun b1=>rA rfl (RS.nil (k1 _ _ ?_)))
 refine T.seq fun _ k2=>dr mixed [0,1,0,1,1,0,0,1,0,0,0] ?_
 refine au 3 ?_
 refine dq rfl (Qt.ldX ty35.h rfl hb1 (fun w s=>s.ext) rfl) (dq rfl (Qt.ldX ty3.h rfl hb2 (fun w s=>s.ext) rfl) ?_)
 obtain ⟨g2,H⟩:=gdE H
 refine dp rfl (Pu.subS rfl rfl g2) ?_
 obtain ⟨g3,H⟩:=gdE H
 obtain ⟨bl4,ol5,rfl⟩:=R_ptr h4 (ne_of_pos (pos_of g3))
 refine dp rfl (Pu.indexSl sl35.h rfl rfl g3) (dq rfl (Qt.ld0 (α:=Int) (Rd.base h4) ty3.h rfl rfl g3 (by rintro _ _ rfl; rfl)) ?_)
 obtain ⟨g6,H⟩:=gdE H
 refine dp rfl (Pu.addS rfl rfl g6) (au 2 ?_)
 refine RD.nil (k2 _ _ (kq [4] ?_))
 obtain rfl:=sj H
 refine T.rt (Cont.ret1 rfl rfl fun w' s=>?_)
 exact ⟨rfl,s.ext⟩
theorem peer_Notes_walk (a0_p:Per) (w:World) {v0 v1 v2 v3 v4:Value} (h0:R (hpOf w) a0_p.mine [v0]) (h1:R (hpOf w) a0_p.inputs [v1]) (h2:R (hpOf w) a0_p.has [v2]) (h3:R (hpOf w) a0_p.acked [v3]) (h4:R (hpOf w) a0_p.hashes [v4]) {r:List Nte × Int} (H:peer_Notes a0_p = some r):Calls Tryz.prog 106 #[.agg #[.int .i64 a0_p.id,.int .i64 a0_p.players,.int .i64 a0_p.delay,.int .i64 a0_p.turn,.int .i64 a0_p.said,v0,v1,v2,v3,v4,.bool a0_p.split]] w fun e w'=>∃ q1:(Option Nat × Nat),e = .returned (.tuple #[rowV q1 r.1.length,.int .i64 r.2])∧Sat w [drow 212 (rowV q1 r.1.length) r.1] w':=by
 have hm0:=R_max h0
 obtain ⟨p0,c0,rfl⟩:=R_form h0
 have hm1:=R_max h1
 obtain ⟨p1,c1,rfl⟩:=R_form h1
 have hm2:=R_max h2
 obtain ⟨p2,c2,rfl⟩:=R_form h2
 have hm3:=R_max h3
 obtain ⟨p3,c3,rfl⟩:=R_form h3
 have hm4:=R_max h4
 obtain ⟨p4,c4,rfl⟩:=R_form h4
 unfold peer_Notes at H
 refine te Tryz.func106 (Sat.start w) ?_
 refine T.seq fun _ k1=>T.region (RS.solid (Sd.box (cs:=[_,_,_,_,_,_,_,_,_,_,_]) rfl rfl) rfl rfl fun b1=>au 2 ?_)
 refine RS.nil (k1 _ _ ?_)
 refine T.seq fun _ k2=>T.seq fun _ k3=>T.region (rq (Qt.ldBA (us:=[_,_,_,_,_,_,_,_,_,_,_]) 0 ty89.h rfl rfl rfl rfl) ?_)
 obtain ⟨x2,hx2,H⟩:=bindE H
 refine rq (Qt.call (vs:=[_]) ent58 rfl fun w s=>peer_May_walk a0_p w ((Rd.base h0) w s) ((Rd.base h1) w s) ((Rd.base h2) w s) ((Rd.base h3) w s) ((Rd.base h4) w s) hx2) (rp (Pu.not rfl) (RS.nil (k3 _ _ ?_)))
 refine T.cB H rfl (fun hc3 H=>?_) (fun hc3 H=>?_)
 ·refine kq [] ?_
  refine au 3 ?_
  obtain rfl:=sj H
  refine T.rt (Cont.ret2 rfl rfl rfl fun w' s=>?_)
  exact ⟨(none,0),rfl,(s.nilRowG (α:=Nte) 212).pick [1] (by decide) rfl⟩
 refine T.skip (k2 _ _ (kq [1,2] ?_))
 refine T.seq fun _ k5=>T.seq fun _ k6=>T.region (RS.solid (Sd.alloc zr3 rfl) rfl rfl fun b4=>RS.solid (Sd.stB (cs':=[_]) 1 ty3.h rfl rfl rfl rfl rfl rfl rfl rfl) rfl rfl fun _=>RS.nil (k6 _ _ ?_))
 refine T.joinE (σ:=Int × List Nte) (γ:=Nat × (Option Nat × Nat)) H (fun s=>s) [] trivial (fun (v6,v8) (q7,q9)=>[(2,rowV q9 v8.length)]) (fun (v6,v8) (q7,q9)=>Sat w [blk b1 [.int .i64 a0_p.id,.int .i64 a0_p.players,.int .i64 a0_p.delay,.int .i64 a0_p.turn,.int .i64 a0_p.said,.slice p0 a0_p.mine.length c0,.slice p1 a0_p.inputs.length c1,.slice p2 a0_p.has.length c2,.slice p3 a0_p.acked.length c3,.slice p4 a0_p.hashes.length c4,.bool a0_p.split] 89,blk q7 [.int .i64 v6] 3,drow 212 (rowV q9 v8.length) v8]) ?_ ?_
 ·rintro ⟨v6,v8⟩ ⟨q7,q9⟩ H
  try dsimp only [Ex.then] at H
  refine Cont.kq [2] ?_
  refine id (k5 _ _ ?_)
  refine au 4 ?_
  obtain rfl:=sj H
  refine T.rt (Cont.ret2 rfl rfl rfl fun w' s=>?_)
  exact ⟨q9,rfl,s.pc [2]⟩
 intro z5 hz5 HX5 hJ5
 refine T.block ?_
 refine T.loopA (γ:=(Option Nat × Nat) × Nat) hz5 [(1,_)] (fun (l10,v12) (q11,q13)=>[(2,rowV q11 l10.length),(4,.pointer (some ⟨q13,0,none⟩))]) (fun (l10,v12) (q11,q13)=>Sat w [blk b1 [.int .i64 a0_p.id,.int .i64 a0_p.players,.int .i64 a0_p.delay,.int .i64 a0_p.turn,.int .i64 a0_p.said,.slice p0 a0_p.mine.length c0,.slice p1 a0_p.inputs.length c1,.slice p2 a0_p.has.length c2,.slice p3 a0_p.acked.length c3,.slice p4 a0_p.hashes.length c4,.bool a0_p.split] 89,blk q13 [.int .i64 v12] 3,drow 212 (rowV q11 l10.length) l10]) ((none,0),b4) sb sb (fun w s=>(s.nilRowG (α:=Nte) 212).pick [0,1,2] (by decide) rfl) ?_
 rintro ⟨l10,v12⟩ ⟨q11,q13⟩ y14 H hd5 KL5 hL5
 try dsimp only [Ex.then] at H
 refine kq [2,4,1] ?_
 refine T.seq fun _ k8=>au 5 ?_
 refine T.cP H rfl (fun hc15 H=>?_) (fun hc15 H=>?_)
 ·refine T.skip (k8 _ _ (kq [1,2,4] ?_))
  refine T.seq fun _ k10=>T.block (T.seq fun _ k11=>au 5 ?_)
  refine T.cP H rfl (fun hc16 H=>?_) (fun hc16 H=>?_)
  ·refine T.xt (k10 _ _ (kq [1,2,4] ?_))
   refine T.seq fun _ k13=>au 2 ?_
   refine T.region (RS.solid (Sd.alloc zr3 rfl) rfl rfl fun b17=>RS.solid (Sd.stB (cs':=[_]) 3 ty3.h rfl rfl rfl rfl rfl rfl rfl rfl) rfl rfl fun _=>RS.nil (k13 _ _ ?_))
   refine T.region (rq (Qt.ldB 3 ty3.h rfl rfl rfl) ?_)
   obtain ⟨g18,H⟩:=gdE H
   refine rp (Pu.addS rfl rfl g18) (RS.solid (Sd.stB (cs':=[_]) 3 ty3.h rfl rfl rfl rfl rfl rfl rfl rfl) rfl rfl fun _=>RS.nil (hL5 _ _ (l10,(v12 + 1)) (q11,b17) H sb sb (fun w s=>s.pc [0,3,2])))
  refine T.skip (k11 _ _ (kq [1,2,4] ?_))
  refine T.seq fun _ k15=>dr mixed [0,1,1,0,0,1,1,0,0,1,0,3,4] ?_
  refine au 3 ?_
  refine dp rfl (Pu.build (cells:=[_,_,_]) st210 rfl rfl) (au 3 ?_)
  obtain ⟨g19,H⟩:=gdE H
  refine dp rfl (Pu.subS rfl rfl g19) ?_
  obtain ⟨g20,H⟩:=gdE H
  obtain ⟨bl21,ol22,rfl⟩:=R_ptr h2 (ne_of_pos (pos_of g20))
  refine dp rfl (Pu.indexSl sl35.h rfl rfl g20) (dq rfl (Qt.ld0 (α:=Int) (Rd.base h2) ty3.h rfl rfl g20 (by rintro _ _ rfl; rfl)) (dp rfl (Pu.build (cells:=[_,_,_,_,_,_,_,_]) st212 rfl rfl) (RD.solid rfl (.inl rfl) rfl rfl (Sd.alloc zr212 rfl) (fun _=>ClE.sat _ _) (fun _ _ _=>trivial) (fun _ _ _ s=>s.drop1) fun b23=>?_)))
  refine RD.solid rfl (.inr rfl) rfl rfl (Sd.stB (cs':=[_,_,_,_,_,_,_,_]) 3 ty212.h rfl rfl rfl rfl rfl rfl rfl rfl) (fun _=>ClE.sat _ _) (fun _ _ _=>trivial) (fun h=>nomatch h) fun _=>?_
  refine RD.nil (k15 _ _ (kq [1,2,4,5] ?_))
  refine T.seq fun _ k16=>T.seq fun _ k17=>T.region (au 4 ?_)
  refine RS.nil (k17 _ _ (kq [1,2,4,5,6] ?_))
  refine au 3 ?_
  refine T.joinE (σ:=Int × UInt64) (γ:=Unit) H (fun s=>s) [(1,_),(2,_),(4,_),(5,_)] sb (fun (v25,v26) _=>[]) (fun (v25,v26) _=>Sat w [blk b1 [.int .i64 a0_p.id,.int .i64 a0_p.players,.int .i64 a0_p.delay,.int .i64 a0_p.turn,.int .i64 a0_p.said,.slice p0 a0_p.mine.length c0,.slice p1 a0_p.inputs.length c1,.slice (some ⟨bl21,ol22,none⟩) a0_p.has.length c2,.slice p3 a0_p.acked.length c3,.slice p4 a0_p.hashes.length c4,.bool a0_p.split] 89,blk q13 [.int .i64 v12] 3,drow 212 (rowV q11 l10.length) l10,blk b23 [.int .i64 a0_p.id,.int .i64 v12,.int .i64 (-1),.int .i64 0,.slice none 0 0,.int .i64 v25,.int .u64 (v26.toNat:Int),.int .i64 (gi a0_p.has (v12 - 1))] 212]) ?_ ?_
  ·rintro ⟨v25,v26⟩ ⟨⟩ H
   try dsimp only [Ex.then] at H
   refine Cont.kq [1,2,4,5] ?_
   refine id (k16 _ _ ?_)
   refine T.seq fun _ k19=>T.seq fun _ k20=>T.region (au 2 ?_)
   refine rp (Pu.makeFunc rfl) ?_
   obtain ⟨x27,hx27,H⟩:=bindE H
   refine rq (Qt.call (vs:=[_,_]) ent158 rfl fun w s=>slices_IndexFuncI_walk a0_p.mine (fun y0=>peer_Notes_1 y0 a0_p v12) w ((Rd.base h0) w s) (⟨159,_,rfl,ent159,fun y0 c r w' ⟨_,hc⟩ he hr=>by subst hc; exact peer_Notes_1_walk y0 a0_p v12 w' (blk_ext he (blk_of s (k:=0) rfl)) (Enc.mono he.hp ((Rd.base h0) w s)) (Enc.mono he.hp ((Rd.base h1) w s)) (Enc.mono he.hp ((Rd.base h2) w s)) (Enc.mono he.hp ((Rd.base h3) w s)) (Enc.mono he.hp ((Rd.base h4) w s)) (blk_ext he (blk_of s (k:=1) rfl)) hr⟩) hx27) (rA rfl (RS.nil (k20 _ _ (kq [1,2,4,5,7] ?_))))
   refine au 3 ?_
   refine T.joinE (σ:=Int × Int × List Cmd) (γ:=(Option Nat × Nat)) H (fun s=>s) [(1,_),(2,_),(4,_),(5,_)] sb (fun (v29,v30,v31) q32=>[]) (fun (v29,v30,v31) q32=>Sat w [blk b1 [.int .i64 a0_p.id,.int .i64 a0_p.players,.int .i64 a0_p.delay,.int .i64 a0_p.turn,.int .i64 a0_p.said,.slice p0 a0_p.mine.length c0,.slice p1 a0_p.inputs.length c1,.slice (some ⟨bl21,ol22,none⟩) a0_p.has.length c2,.slice p3 a0_p.acked.length c3,.slice p4 a0_p.hashes.length c4,.bool a0_p.split] 89,blk q13 [.int .i64 v12] 3,drow 212 (rowV q11 l10.length) l10,blk b23 [.int .i64 a0_p.id,.int .i64 v12,.int .i64 v29,.int .i64 v30,rowV q32 v31.length,.int .i64 v25,.int .u64 (v26.toNat:Int),.int .i64 (gi a0_p.has (v12 - 1))] 212,drow 37 (rowV q32 v31.length) v31]) ?_ ?_
   ·rintro ⟨v29,v30,v31⟩ q32 H
    try dsimp only [Ex.then] at H
    refine Cont.kq [1,2,4,5] ?_
    refine id (k19 _ _ ?_)
    refine T.region (au 2 ?_)
    refine RS.solid (Sd.litS (cs:=[_,_,_,_,_,_,_,_]) sl83.h zr212 rfl rfl rfl rfl rfl) rfl rfl fun b33=>?_
    obtain ⟨g35,H⟩:=gdE H
    refine RS.solid (Sd.pre (fun w s=>(Sat.starAt 4 6 (Sat.starAt 4 7 ((s.noStars).noStars) rfl rfl (by decide)) rfl rfl (by decide))) (Sd.appL (α:=Nte) 2 5 4 ([(⟨a0_p.id,v12,(⟨v29,v30,v31⟩:Inp),v25,v26,(gi a0_p.has (v12 - 1))⟩:Nte)]:List Nte) rfl rfl rfl (DRF.cons' (α:=Nte) (x:=(⟨a0_p.id,v12,(⟨v29,v30,v31⟩:Inp),v25,v26,(gi a0_p.has (v12 - 1))⟩:Nte)) (fun _ h=>⟨_,rfl,h⟩) DRF.nil') rfl sl83.h zr212 rfl rfl rfl rfl g35 (by decide))) rfl rfl fun q34=>rA rfl (RS.nil (k10 _ _ (kq [1,2,4] ?_)))
    refine T.seq fun _ k22=>au 2 ?_
    refine nz ?_
    refine T.region (RS.solid (Sd.alloc zr3 rfl) rfl rfl fun b36=>RS.solid (Sd.stB (cs':=[_]) 8 ty3.h rfl rfl rfl rfl rfl rfl rfl rfl) rfl rfl fun _=>RS.nil (k22 _ _ ?_))
    refine nz ?_
    refine T.region (rq (Qt.ldB 8 ty3.h rfl rfl rfl) ?_)
    obtain ⟨g37,H⟩:=gdE H
    refine rp (Pu.addS rfl rfl g37) (RS.solid (Sd.stB (cs':=[_]) 8 ty3.h rfl rfl rfl rfl rfl rfl rfl rfl) rfl rfl fun _=>RS.nil (hL5 _ _ ((l10 ++ ([(⟨a0_p.id,v12,(⟨v29,v30,v31⟩:Inp),v25,v26,(gi a0_p.has (v12 - 1))⟩:Nte)]:List Nte)),(v12 + 1)) (q34,b36) H sb sb (fun w s=>s.pc [0,8,2])))
   intro z28 H HX28 hJ28
   refine T.cP H rfl (fun hc38 H=>?_) (fun hc38 H=>?_)
   ·refine T.region (au 3 ?_)
    obtain ⟨g39,H⟩:=gdE H
    obtain ⟨bl40,ol41,rfl⟩:=R_ptr h0 (ne_of_pos (pos_of g39))
    refine rp (Pu.indexSl sl86.h rfl rfl g39) ?_
    obtain ⟨c42,hc43,ha44⟩:=R_el (α:=Inp) h0 g39
    obtain ⟨u45,rfl,hu45⟩:=hc43
    obtain ⟨p46,cc47,rfl⟩:=R_form hu45
    refine rq (Qt.ldZ (cs:=[_,_,_]) ty210.h rfl ha44 Held.base rfl) ?_
    obtain ⟨x48,hx48,H⟩:=bindE H
    refine RS.solid (Sd.callN (vs:=[_]) ent157 rfl (fun w s=>turns_Own_walk (gi a0_p.mine x27) w ((Rd.base hu45) w s) hx48)) rfl rfl fun q49=>au 2 ?_
    obtain rfl:=sj H
    refine RS.nil (hJ28 _ _ (x48.turn,x48.player,x48.commands) q49 HX28 sb trivial (fun w s=>s))
   obtain rfl:=sj H
   refine T.skip (hJ28 _ _ ((-1),0,[]) (none,0) HX28 sb trivial (fun w s=>(s.nilRowG (α:=Cmd) 37).pick [0,1,2,3,4] (by decide) rfl))
  intro z24 H HX24 hJ24
  refine T.cP H rfl (fun hc50 H=>?_) (fun hc50 H=>?_)
  ·refine drS mixed [0,1,2] [0,1,0,0,2,0,0,0,2,0,4,0,4] ?_
   refine au 2 ?_
   obtain ⟨g51,H⟩:=gdE H
   refine RD.p (fun w s=>s.pc [0,1,2]) rfl (Pu.subS rfl rfl g51) rfl rfl (au 3 ?_)
   obtain ⟨g52,H⟩:=gdE H
   refine RD.p (fun w s=>s.pc [0,1,2]) rfl (Pu.subS rfl rfl g52) rfl rfl ?_
   obtain ⟨g53,H⟩:=gdE H
   obtain ⟨bl54,ol55,rfl⟩:=R_ptr h4 (ne_of_pos (pos_of g53))
   refine RD.p (fun w s=>s.pc [0,1,2]) rfl (Pu.indexSl sl87.h rfl rfl g53) rfl rfl ?_
   refine RD.w (fun w s=>s.pc [0,1,2]) rfl (Qt.ld0 (α:=UInt64) (Rd.base h4) ty112.h rfl rfl g53 (by rintro _ _ rfl; rfl)) rfl rfl ?_
   refine au 4 ?_
   obtain rfl:=sj H
   refine RD.nil (hJ24 _ _ ((a0_p.turn - 1),(gi a0_p.hashes ((a0_p.hashes.length:Int) - 1))) () HX24 sb trivial (fun w s=>s))
  obtain rfl:=sj H
  refine T.skip (hJ24 _ _ ((-1),(0:UInt64)) () HX24 sb trivial (fun w s=>s))
 obtain rfl:=hd5 _ H
 refine T.xt (hJ5 _ _ (v12,l10) (q13,q11) HX5 trivial sb (fun w s=>s))
end Go.Proofs.YtmngdgclldkcfaaGreat
